/-
  Contracts of functions that the claim reaches, or the logic and the plain laws that they rest on, or the row over them. (Conditions: none beyond the statement.)
-/
import Derived.WalkKit
import Derived.OrdersHeld
import Derived.OrdersIn
import Derived.LoopNIn
import Derived.RangeFuncLeaves
import Derived.RangeFuncIn
import Derived.RangeFuncRecord
import Derived.TacticsInMore
import Derived.OwnWalkIn
import Derived.ProofKit
import Derived.JoinedCond
import Derived.OpenShut
import Derived.DeepKeys
import Derived.Laws.MakeOwn
set_option linter.all false
/-
 A logic of blocks over the model's walk:what a piece of code does to the blocks that it owns,all else being kept. (Conditions:none;generic over the program.)
-/
namespace Go.SL
open Go.RowKit

abbrev Hp:=Nat ->Option Obj
abbrev Ao:=Hp ->Prop

def pt(b:Nat)(o:Obj):Ao:=fun h=> ∀c,h c=if c=b then some o else none
def dj(h1 h2:Hp):Prop:= ∀b,h1 b=none\/h2 b=none
def un(h1 h2:Hp):Hp:=fun b=>match h1 b with|some o=>some o|none=>h2 b
def F7:List Ao ->Ao
 | []=>fun h=> ∀b,h b=none
 |A::R=>fun h=> ∃h1 h2,dj h1 h2/\(∀b,h b=un h1 h2 b)/\A h1/\F7 R h2
def sat(w:World)(A:List Ao):Prop:= ∃h:Hp,(∀b o,h b=some o ->w.heap[b]? =some o)/\F7 A h

theorem dj.symm{h1 h2:Hp}(h:dj h1 h2):dj h2 h1:=fun b=>(h b).symm
theorem WO{A B:Ao}{R:List Ao}{h:Hp} :F7 (A::B::R) h ->F7 (B::A::R) h:=by
 rintro⟨h1,h2,d,e,a,h3,h4,d',e',b,r⟩
 have h23: ∀x,(h1 x=none\/h3 x=none)/\(h1 x=none\/h4 x=none):=fun x=>by
  have dx:=d x;have ex:=e' x;unfold un at ex
  rcases dx with dx|dx
  ·exact⟨.inl dx,.inl dx⟩
  ·rw [dx] at ex
   cases h3x:h3 x with
   |none=>rw [h3x] at ex;exact⟨.inr rfl,.inr ex.symm⟩
   |some o=>rw [h3x] at ex;cases ex
 refine⟨h3,un h1 h4,fun x=>?_,fun x=>?_,b,h1,h4,fun x=>(h23 x).2,fun x=>rfl,a,r⟩
 ·have dx:=d' x;have hx:=(h23 x).1;unfold un
  rcases hx with hx|hx
  ·rw [hx];simpa using dx
  ·exact .inl hx
 ·have ex:=e x;have ex':=e' x;have hx:=(h23 x).1
  rw [ex];unfold un at*
  cases h1x:h1 x with
  |none=>simp only;rw [ex']
  |some o=>
   rw [h1x] at hx
   rcases hx with hx|hx
   ·cases hx
   ·rw [hx]
theorem WP{A B:List Ao}(p:A.Perm B): ∀ {h:Hp},F7 A h ->F7 B h:=by
 induction p with
 |nil=>exact fun x=>x
 |cons x _ ih=>exact fun⟨h1,h2,d,e,a,r⟩=>⟨h1,h2,d,e,a,ih r⟩
 |swap x y l=>exact WO
 |trans _ _ ih1 ih2=>exact fun h=>ih2 (ih1 h)
theorem AS{A B:List Ao}{w:World}(p:A.Perm B)(h:sat w A):sat w B:=let ⟨x,y,z⟩:=h;⟨x,y,WP p z⟩
theorem HW{A:List Ao}{w w':World}(e:w'.heap=w.heap)(h:sat w A):sat w' A:=let ⟨x,y,z⟩:=h;⟨x,by rw [e];exact y,z⟩
theorem Iq{h1 h2:Hp}{b:Nat}(e:h1 b=none):un h1 h2 b=h2 b:=by unfold un;rw [e]
theorem Lk{h1 h2:Hp}{b:Nat}{o:Obj}(e:h1 b=some o):un h1 h2 b=some o:=by unfold un;rw [e]
theorem Q0{h1 h2:Hp}(d:dj h1 h2){b:Nat}{o:Obj}(e:h2 b=some o):un h1 h2 b=some o:=by
 rcases d b with x|x
 ·rw [Iq x,e]
 ·rw [x] at e;cases e
theorem EB{X:Ao}{R:List Ao}{w:World} :sat w (X::R) ->sat w R:=by
 rintro⟨h,hw,h1,h2,d,e,a,r⟩
 exact⟨h2,fun b o hb=>hw b o (by rw [e,Q0 d hb]),r⟩
theorem Ll{A B R:List Ao}{w:World}(p:A.Perm (B++R))(h:sat w A):sat w B:=by
 have h:=AS (p.trans List.perm_append_comm) h
 clear p
 induction R with
 |nil=>exact h
 |cons x r ih=>exact ih (EB h)
theorem Cn{b:Nat}{o:Obj}{R:List Ao}{w:World} :sat w (pt b o::R) ->w.heap[b]? =some o:=by
 rintro⟨h,hw,h1,h2,d,e,a,r⟩
 exact hw b o (by rw [e,Lk (o:=o) (by rw [a b,if_pos rfl])])
theorem Fq{b:Nat}{o o':Obj}{R:List Ao}{w w':World}(hb:w'.heap[b]? =some o')(hk: ∀c,c≠b -> ∀x,w.heap[c]? =some x ->w'.heap[c]? =some x)
  (h:sat w (pt b o::R)):sat w' (pt b o'::R):=by
 obtain⟨h,hw,h1,h2,d,e,a,r⟩:=h
 refine⟨un (fun c=>if c=b then some o' else none) h2,fun c x hc=>?_,fun c=>if c=b then some o' else none,h2,fun c=>?_,fun _=>rfl,fun _=>rfl,r⟩
 ·unfold un at hc
  by_cases hcb:c=b
  ·subst hcb;simp at hc;rw [hb,hc]
  ·simp [hcb] at hc
   exact hk c hcb x (hw c x (by rw [e,Q0 d hc]))
 ·by_cases hcb:c=b
  ·subst hcb
   rcases d c with x|x
   ·rw [a c,if_pos rfl] at x;cases x
   ·exact .inr x
  ·exact .inl (by simp [hcb])
theorem GR{o:Obj}{R:List Ao}{w w':World}(hb:w'.heap=w.heap.push o)(h:sat w R):sat w' (pt w.heap.size o::R):=by
 obtain⟨h,hw,r⟩:=h
 have hlt: ∀c x,h c=some x ->c<w.heap.size:=fun c x hc=>(Array.getElem?_eq_some_iff.1 (hw c x hc)).1
 have hn:h w.heap.size=none:=by
  cases hc:h w.heap.size with
  |none=>rfl
  |some x=>exact absurd (hlt _ _ hc) (Nat.lt_irrefl _)
 refine⟨un (fun c=>if c=w.heap.size then some o else none) h,fun c x hc=>?_,fun c=>if c=w.heap.size then some o else none,h,fun c=>?_,fun _=>rfl,fun _=>rfl,r⟩
 ·unfold un at hc
  by_cases hcb:c=w.heap.size
  ·subst hcb;simp at hc;rw [hb,<-hc];simp
  ·simp [hcb] at hc
   have:=hlt c x hc
   rw [hb,Array.getElem?_push,if_neg hcb]
   exact hw c x hc
 ·by_cases hcb:c=w.heap.size
  ·subst hcb;exact .inr hn
  ·exact .inl (by simp [hcb])
theorem cc{b c:Nat}{o p:Obj}{R:List Ao}{w:World}(h:sat w (pt b o::pt c p::R)):b≠c:=by
 obtain⟨h,hw,h1,h2,d,e,a,h3,h4,d',e',a',r⟩:=h
 intro hbc;subst hbc
 rcases d b with x|x
 ·rw [a b,if_pos rfl] at x;cases x
 ·rw [e',Lk (o:=p) (by rw [a' b,if_pos rfl])] at x;cases x
theorem Om{A B:List Ao} : ∀ {h:Hp},F7 (F7 A::B) h<->F7 (A++B) h:=by
 induction A with
 |nil=>
  intro h
  constructor
  ·rintro⟨h1,h2,d,e,a,r⟩
   have:h=h2:=funext fun b=>by rw [e,Iq (a b)]
   rw [this];exact r
  ·intro r;exact⟨fun _=>none,h,fun _=>.inl rfl,fun _=>rfl,fun _=>rfl,r⟩
 |cons X A ih=>
  intro h
  constructor
  ·rintro⟨h1,h2,d,e,⟨h3,h4,d',e',x,a⟩,r⟩
   have hd: ∀b,(h3 b=none\/h2 b=none)/\(h4 b=none\/h2 b=none):=fun b=>by
    rcases d b with q|q
    ·have:=e' b;rw [q] at this;unfold un at this
     cases h3b:h3 b with
     |none=>rw [h3b] at this;exact⟨.inl rfl,.inl this.symm⟩
     |some o=>rw [h3b] at this;cases this
    ·exact⟨.inr q,.inr q⟩
   refine⟨h3,un h4 h2,fun b=>?_,fun b=>?_,x,ih.1 ⟨h4,h2,fun b=>(hd b).2,fun _=>rfl,a,r⟩⟩
   ·rcases d' b with q|q
    ·exact .inl q
    ·rcases(hd b).1 with q'|q'
     ·exact .inl q'
     ·exact .inr (by rw [Iq q];exact q')
   ·rw [e];unfold un;rw [e' b];unfold un
    cases h3 b <;>rfl
  ·rintro⟨h3,h5,d,e,x,r⟩
   obtain⟨h4,h2,d',e',a,r⟩:=ih.2 r
   have hd: ∀b,(h3 b=none\/h4 b=none)/\(h3 b=none\/h2 b=none):=fun b=>by
    rcases d b with q|q
    ·exact⟨.inl q,.inl q⟩
    ·rw [e'] at q;unfold un at q
     cases h4b:h4 b with
     |none=>rw [h4b] at q;exact⟨.inr rfl,.inr q⟩
     |some o=>rw [h4b] at q;cases q
   refine⟨un h3 h4,h2,fun b=>?_,fun b=>?_,⟨h3,h4,fun b=>(hd b).1,fun _=>rfl,x,a⟩,r⟩
   ·rcases d' b with q|q
    ·rcases(hd b).2 with q'|q'
     ·exact .inl (by rw [Iq q'];exact q)
     ·exact .inr q'
    ·exact .inr q
   ·rw [e];unfold un;rw [e' b];unfold un
    cases h3 b <;>rfl
theorem Bb{A B:List Ao}{w:World} :sat w (F7 A::B)<->sat w (A++B):=
 ⟨fun ⟨h,a,b⟩=>⟨h,a,Om.1 b⟩,fun⟨h,a,b⟩=>⟨h,a,Om.2 b⟩⟩
theorem E3{α:Type}{B:α ->Ao}{R:List Ao}{w:World} :sat w ((fun h=> ∃x,B x h)::R)<-> ∃x,sat w (B x::R):=
 ⟨fun ⟨h,a,h1,h2,d,e,⟨x,b⟩,r⟩=>⟨x,h,a,h1,h2,d,e,b,r⟩,fun⟨x,h,a,h1,h2,d,e,b,r⟩=>⟨h,a,h1,h2,d,e,⟨x,b⟩,r⟩⟩
theorem Co{p:Prop}{B:Ao}{R:List Ao}{w:World} :sat w ((fun h=>p/\B h)::R)<->p/\sat w (B::R):=
 ⟨fun ⟨h,a,h1,h2,d,e,⟨x,b⟩,r⟩=>⟨x,h,a,h1,h2,d,e,b,r⟩,fun⟨x,h,a,h1,h2,d,e,b,r⟩=>⟨h,a,h1,h2,d,e,⟨x,b⟩,r⟩⟩
theorem Hl{A B:Ao}{R:List Ao}{w:World}(f: ∀h,A h ->B h)(h:sat w (A::R)):sat w (B::R):=
 let ⟨h,a,h1,h2,d,e,b,r⟩:=h;⟨h,a,h1,h2,d,e,f _ b,r⟩

structure Kept (w w':World):Prop where
 os:w'.os=w.os
 tape:w'.tape=w.tape
 output:w'.output=w.output
 size:w.heap.size<=w'.heap.size
 drawn:w.drawn<=w'.drawn
theorem Kept.refl(w:World):Kept w w:=⟨rfl,rfl,rfl,Nat.le_refl _,Nat.le_refl _⟩
theorem Kept.trans{a b c:World}(h:Kept a b)(k:Kept b c):Kept a c:=⟨k.os.trans h.os,k.tape.trans h.tape,k.output.trans h.output,Nat.le_trans h.size k.size,Nat.le_trans h.drawn k.drawn⟩

def Dj:List (Nat × Value) ->Nat ->Option Value
 | [],_=>none
 |(k,v)::r,x=>bif Nat.beq k x then some v else Dj r x
def Fr(n:Nat)(L:List (Nat × Value))(a:Act):Prop:=a.tmps.size=n/\ ∀x v,Dj L x=some v ->a.tmps[x]? =some v
def ev(L:List (Nat × Value)):Operand ->Option Value
 | .tmp t=>Dj L t
 | .const v=>some v
 | .global g=>some (.pointer (some ⟨g,0,none⟩))
 | .func f=>some (.func (.func f) #[] #[])
def Xi(L:List (Nat × Value)):List Operand ->Option (List Value)
 | []=>some []
 |x::r=>match ev L x,Xi L r with|some v,some vs=>some (v::vs)|_,_=>none
theorem Fr.eval{n:Nat}{L:List (Nat × Value)}{a:Act}(h:Fr n L a){x:Operand}{v:Value}(e:ev L x=some v):a.eval x=v:=by
 cases x with
 |tmp t=>have:=h.2 t v e;simp [Act.eval,Array.getD_eq_getD_getElem?,this]
 |const u=>simpa [ev,Act.eval] using e
 |global g=>simpa [ev,Act.eval] using e
 |func f=>simpa [ev,Act.eval] using e
theorem Fr.evals{n:Nat}{L:List (Nat × Value)}{a:Act}(h:Fr n L a): ∀ {xs:List Operand} {vs:List Value},Xi L xs=some vs ->xs.map a.eval=vs
 | [],vs,e=>by simp [Xi] at e;simp [e]
 |x::r,vs,e=>by
  unfold Xi at e
  split at e
  ·rename_i v us hx hr
   simp only [Option.some.injEq] at e
   rw [<-e,List.map_cons,h.eval hx,h.evals hr]
  ·cases e
theorem Fr.put{n:Nat}{L:List (Nat × Value)}{a:Act}(h:Fr n L a){d:Nat}(hd:Nat.blt d n=true)(v:Value):Fr n ((d,v)::L) (a.put (some d) v):=by
 obtain⟨h1,h3⟩:=h
 have hd':d<n:=by simpa [Nat.blt_eq] using hd
 refine⟨by simp [Act.put,h1],fun x u hx=>?_⟩
 unfold Dj at hx
 by_cases hdx:d=x
 ·subst hdx
  simp at hx
  simp [Act.put,h1,hd',hx]
 ·have:Nat.beq d x=false:=Bool.eq_false_iff.2 fun e=>hdx (Nat.eq_of_beq_eq_true e)
  rw [this] at hx
  simp only [cond_false] at hx
  simp [Act.put,hdx,h3 x u hx]
def Wk(L L':List (Nat × Value)):Prop:= ∀x v,Dj L' x=some v ->Dj L x=some v
theorem Wk.nil{L:List (Nat × Value)} :Wk L []:=fun _ _ h=>by cases h
theorem Wk.cons{L L':List (Nat × Value)}{x:Nat}{v:Value}(h:Dj L x=some v)(k:Wk L L'):Wk L ((x,v)::L'):=fun y u hy=>by
 unfold Dj at hy
 by_cases hxy:x=y
 ·subst hxy;simp at hy;rw [h,hy]
 ·have:Nat.beq x y=false:=Bool.eq_false_iff.2 fun e=>hxy (Nat.eq_of_beq_eq_true e)
  rw [this] at hy;exact k y u hy
theorem Wk.refl{L:List (Nat × Value)} :Wk L L:=fun _ _ h=>h
theorem Fr.wk{n:Nat}{L L':List (Nat × Value)}{a:Act}(h:Fr n L a)(k:Wk L L'):Fr n L' a:=⟨h.1,fun x v hx=>h.2 x v (k x v hx)⟩

structure Md where
 r:Option Nat
 ds:List Deferred
abbrev cu:Md:=⟨none,[]⟩
def fz(r:Option Nat):Fence:= { Fence.wide with round:=r }
theorem Tf(r:Option Nat)(f:FuncId):(fz r).fn f:=trivial
theorem KR{r:Option Nat}{n:Nat} :(fz r).depth.isSome=true ->1<=n:=fun h=>by simp [fz,Fence.wide] at h
theorem R7{r:Option Nat}{n:Nat}{P:Program}{f:FuncId}{args:Array Value}{w:World}{R:Ending ->World ->Prop}(h:Calls P f args w R):CallsIn (fz r) n P f args w R:=
 (callsIn_wide (n:=n)).2 h
theorem J2{P:Program}{ρ:Operand ->Value}{o:Oper}{w w':World}{v:Value}(h:(execOp ρ o).run P w= .ok (.value v) w'): ∀c,o.op≠ .defer c:=by
 intro c hc
 obtain⟨d,op,ty,DJ,af,g⟩:=o
 simp only at hc
 subst hc
 simp only [execOp,Sem.run_bind] at h
 cases hr:(resolve ρ c ty).run P w with
 |ok d w1=>rw [hr] at h;simp at h
 |halt x w1=>rw [hr] at h;simp at h
theorem SR{P:Program}{ρ:Operand ->Value}{o:Oper}{w w':World}{f:FuncId}{args:Array Value}(h:(execOp ρ o).run P w= .ok (.enter f args) w'): ∀c,o.op≠ .defer c:=by
 intro c hc
 obtain⟨d,op,ty,DJ,af,g⟩:=o
 simp only at hc
 subst hc
 simp only [execOp,Sem.run_bind] at h
 cases hr:(resolve ρ c ty).run P w with
 |ok d w1=>rw [hr] at h;simp at h
 |halt x w1=>rw [hr] at h;simp at h
theorem SO{P:Program}{ρ:Operand ->Value}{o:Oper}{w w':World}(h:(execOp ρ o).run P w= .ok .skip w'): ∀c,o.op≠ .defer c:=by
 intro c hc
 obtain⟨d,op,ty,DJ,af,g⟩:=o
 simp only at hc
 subst hc
 simp only [execOp,Sem.run_bind] at h
 cases hr:(resolve ρ c ty).run P w with
 |ok d w1=>rw [hr] at h;simp at h
 |halt x w1=>rw [hr] at h;simp at h

def Ext(A:List Ao)(X:Ao)(R:List Ao):Prop:=A.Perm (X::R)
theorem Ext.here{X:Ao}{R:List Ao} :Ext (X::R) X R:=List.Perm.refl _
theorem Ext.there{X Z:Ao}{A R:List Ao}(h:Ext A X R):Ext (Z::A) X (Z::R):=(List.Perm.cons Z h).trans (List.Perm.swap X Z R)
def Upd(A:List Ao)(X Y:Ao)(A':List Ao):Prop:= ∃R,A.Perm (X::R)/\A'.Perm (Y::R)
theorem Upd.here{X Y:Ao}{R:List Ao} :Upd (X::R) X Y (Y::R):=⟨R,.refl _,.refl _⟩
theorem Upd.there{X Y Z:Ao}{A A':List Ao}(h:Upd A X Y A'):Upd (Z::A) X Y (Z::A'):=
 let ⟨R,p,q⟩:=h;⟨Z::R,(p.cons Z).trans (.swap X Z R),(q.cons Z).trans (.swap Y Z R)⟩
def Has(A:List Ao)(X:Ao):Prop:= ∃R,A.Perm (X::R)
theorem Has.here{X:Ao}{R:List Ao} :Has (X::R) X:=⟨R,.refl _⟩
theorem Has.there{X Z:Ao}{A:List Ao}(h:Has A X):Has (Z::A) X:=let ⟨R,p⟩:=h;⟨Z::R,(p.cons Z).trans (.swap X Z R)⟩
theorem Has.sat{A:List Ao}{b:Nat}{o:Obj}(h:Has A (pt b o)){w:World}(hs:sat w A):w.heap[b]? =some o:=let ⟨_,p⟩:=h;Cn (AS p hs)
def Gv(A B R:List Ao):Prop:=A.Perm (B++R)
theorem Gv.nil{A:List Ao} :Gv A [] A:=List.Perm.refl _
theorem Gv.cons{A A' B R:List Ao}{X:Ao}(h:Ext A X A')(k:Gv A' B R):Gv A (X::B) R:=List.Perm.trans h (List.Perm.cons X k)
theorem Gv.all{A:List Ao} :Gv A A []:=by unfold Gv;rw [List.append_nil]
def Sub(A B:List Ao):Prop:= ∃R,A.Perm (B++R)
theorem Sub.nil{A:List Ao} :Sub A []:=⟨A,.refl _⟩
theorem Sub.refl{A:List Ao} :Sub A A:=⟨[],by rw [List.append_nil]⟩
theorem Sub.cons{A A' B:List Ao}{X:Ao}(h:Ext A X A')(k:Sub A' B):Sub A (X::B):=let ⟨R,p⟩:=k;⟨R,List.Perm.trans h (p.cons X)⟩
theorem Sub.sat{A B:List Ao}{w:World}(h:Sub A B)(hs:sat w A):sat w B:=let ⟨_,p⟩:=h;Ll p hs

end Go.SL
/-
 The rules of the logic for code:operations in the text's order,regions that draw their order,sequences,tests,blocks,loops,returns,calls. (Conditions:none;generic over the program.)
-/
namespace Go.SL
open Go.RowKit

def Rd(P:Program)(n:Nat)(o:Oper)(L:List (Nat × Value))(A:List Ao)(v:Value):Prop:=
 ∀a w,Fr n L a ->sat w A ->(execOp a.eval o).run P w= .ok (.value v) w
def Ac(P:Program)(n:Nat)(o:Oper)(L:List (Nat × Value))(A:List Ao)(R:Value ->List Ao ->Prop):Prop:=
 ∀(r:Option Nat) a w (K:Act ->World ->Prop) (Q:Exit ->Act ->World ->Prop),Fr n L a ->sat w A ->
  (∀v A' w',R v A' ->sat w' A' ->Kept w w' ->K (a.put o.dst v) w') ->o.wpIn (fz r) 0 P a w K Q
theorem Ew{P:Program}{n:Nat}{o:Oper}{L:List (Nat × Value)}{A:List Ao}{R:Value ->List Ao ->Prop}
  (h: ∀a w,Fr n L a ->sat w A -> ∃v w' A',((execOp a.eval o).run P w= .ok (.value v) w'\/((execOp a.eval o).run P w= .ok .skip w'/\v=undef))/\R v A'/\sat w' A'/\Kept w w'):Ac P n o L A R:=by
 intro r a w K Q hf hs hk
 obtain⟨v,w',A',hr,hR,hs',hk'⟩:=h a w hf hs
 have:=hk v A' w' hR hs' hk'
 refine⟨fun _ _=>trivial,?_⟩
 rcases hr with hr|⟨hr,rfl⟩
 ·rw [Oper.semAt_plain _ _ _ (J2 hr),hr];exact this
 ·rw [Oper.semAt_plain _ _ _ (SO hr),hr];exact this
theorem Rd.mono{P:Program}{n:Nat}{o:Oper}{L L':List (Nat × Value)}{A B:List Ao}{v:Value}(h:Rd P n o L' B v)(hl:Wk L L')(hb:Sub A B):Rd P n o L A v:=
 fun a w hf hs=>h a w (hf.wk hl) (hb.sat hs)

def Wt(ops:Array Oper)(o:Oper)(L:List (Nat × Value)):Option Bool:=
 match o.guard with
 |none=>some true
 |some (j,want)=>
  match (ops[j]?).bind (·.dst) with
  |none=>some false
  |some s=>match Dj L s with
   |some (.bool c)=>some (c==want)
   |some (.tuple _)=>some false
   |_=>none
theorem Wt.wanted{ops:Array Oper}{o:Oper}{L:List (Nat × Value)}{b:Bool}(h:Wt ops o L=some b){n:Nat}{a:Act}(hf:Fr n L a):Region.wanted o (yielded ops a.tmps)=b:=by
 unfold Wt at h
 unfold Region.wanted
 split at h
 ·rename_i hg;rw [hg];simpa using h
 ·rename_i j want hg
  rw [hg]
  unfold yielded
  dsimp only
  split at h
  ·rename_i hd;rw [hd];simpa using h
  ·rename_i s hd
   rw [hd]
   split at h
   ·rename_i c hl
    simp only [Option.bind_some,hf.2 _ _ hl]
    simpa using h
   ·rename_i c hl
    simp only [Option.bind_some,hf.2 _ _ hl]
    simpa using h
   ·cases h

def WL(P:Program)(m:Md)(ops:Array Oper)(Q:Exit ->Act ->World ->Prop)(w0:World)(n:Nat)(rest:List Oper)(L:List (Nat × Value))(A:List Ao):Prop:=
 ∀a w,a.defers=m.ds ->Fr n L a ->sat w A ->Kept w0 w ->wpListIn (fz m.r) 0 P ops Q rest a w
def WC(P:Program)(m:Md)(Q:Exit ->Act ->World ->Prop)(w0:World)(n:Nat)(c:Code)(L:List (Nat × Value))(A:List Ao):Prop:=
 ∀a w,a.defers=m.ds ->Fr n L a ->sat w A ->Kept w0 w ->c.wpIn (fz m.r) 0 P Q a w
def Ps(m:Md)(Q:Act ->World ->Prop)(w0:World)(n:Nat)(L:List (Nat × Value))(A:List Ao):Prop:=
 ∀a w,a.defers=m.ds ->Fr n L a ->sat w A ->Kept w0 w ->Q a w
section
variable {P : Program} {m : Md} {ops : Array Oper} {Q : Exit → Act → World → Prop} {w0 : World} {n : Nat} {rest : List Oper} {L : List (Nat × Value)} {A : List Ao} {o : Oper}
theorem AW(h:Ps m (Q .normal) w0 n L A):WL P m ops Q w0 n [] L A:=h
theorem As{v:Value}{d:Nat}(h:Rd P n o L A v)(hw:Wt ops o L=some true)(hd:o.dst=some d)(hn:Nat.blt d n=true)
  (k:WL P m ops Q w0 n rest ((d,v)::L) A):WL P m ops Q w0 n (o::rest) L A:=by
 intro a w hd0 hf hs hk
 unfold wpListIn
 rw [if_pos (Wt.wanted hw hf)]
 refine⟨fun _ _=>trivial,?_⟩
 rw [Oper.semAt_plain _ _ _ (J2 (h a w hf hs)),h a w hf hs]
 show wpListIn _ _ _ _ _ _ (a.put o.dst v) w
 rw [hd];exact k _ _ hd0 (hf.put hn v) hs hk
theorem AB{R:Value ->List Ao ->Prop}{d:Nat}(h:Ac P n o L A R)(hw:Wt ops o L=some true)(hd:o.dst=some d)(hn:Nat.blt d n=true)
  (k: ∀v A',R v A' ->WL P m ops Q w0 n rest ((d,v)::L) A'):WL P m ops Q w0 n (o::rest) L A:=by
 intro a w hd0 hf hs hk
 unfold wpListIn
 rw [if_pos (Wt.wanted hw hf)]
 refine h m.r a w _ Q hf hs fun v A' w' hR hs' hk'=>?_
 rw [hd];exact k v A' hR _ _ hd0 (hf.put hn v) hs' (hk.trans hk')
theorem AX{R:Value ->List Ao ->Prop}(h:Ac P n o L A R)(hw:Wt ops o L=some true)(hd:o.dst=none)
  (k: ∀v A',R v A' ->WL P m ops Q w0 n rest L A'):WL P m ops Q w0 n (o::rest) L A:=by
 intro a w hd0 hf hs hk
 unfold wpListIn
 rw [if_pos (Wt.wanted hw hf)]
 refine h m.r a w _ Q hf hs fun v A' w' hR hs' hk'=>?_
 rw [hd];exact k v A' hR _ _ hd0 hf hs' (hk.trans hk')
theorem au{d:Nat}(hw:Wt ops o L=some false)(hd:o.dst=some d)(hn:Nat.blt d n=true)
  (k:WL P m ops Q w0 n rest ((d,undef)::L) A):WL P m ops Q w0 n (o::rest) L A:=by
 intro a w hd0 hf hs hk
 unfold wpListIn
 rw [if_neg (by rw [Wt.wanted hw hf];simp),hd]
 exact⟨fun _ _=>trivial,k _ _ hd0 (hf.put hn _) hs hk⟩
theorem cG{L':List (Nat × Value)}{A':List Ao}(hl:Wk L L')(ha:Sub A A')(k:WL P m ops Q w0 n rest L' A'):WL P m ops Q w0 n rest L A:=
 fun a w hd0 hf hs hk=>k a w hd0 (hf.wk hl) (ha.sat hs) hk
theorem AD{id:Nat}{l:List Oper}(h:WL P m l.toArray Q w0 n l L A):WC P m Q w0 n (.region id l.toArray false) L A:=
 fun a w hd0 hf hs hk=>wpIn_region_lit (h a w hd0 hf hs hk)
def gn{P:Program}{m:Md}{y:Code}{Q:Exit ->Act ->World ->Prop}(K:Act ->World ->Prop):Prop:= ∀a w,y.wpIn (fz m.r) 0 P Q a w ->K a w
theorem A7{x y:Code}(h: ∀K:Act ->World ->Prop,gn (P:=P) (m:=m) (y:=y) (Q:=Q) K ->WC P m (Exit.then K Q) w0 n x L A):WC P m Q w0 n (.seq x y) L A:=
 fun a w hd0 hf hs hk=>wpIn_seq_k fun K hK=>h K hK a w hd0 hf hs hk
theorem A5{y:Code}{K:Act ->World ->Prop}(hK:gn (P:=P) (m:=m) (y:=y) (Q:=Q) K)(h:WC P m Q w0 n y L A):Ps m K w0 n L A:=
 fun a w hd0 hf hs hk=>hK a w (h a w hd0 hf hs hk)
theorem AH{c:Operand}{x y:Code}{b:Bool}(hc:ev L c=some (.bool b))(h1:b=true ->WC P m Q w0 n x L A)(h2:b=false ->WC P m Q w0 n y L A):WC P m Q w0 n (.cond c x y) L A:=
 fun a w hd0 hf hs hk=>wpIn_cond_split (hf.eval hc) (fun hb=>h1 hb a w hd0 hf hs hk) (fun hb=>h2 hb a w hd0 hf hs hk)
theorem Ad{c:Operand}{x y:Code}(hc:ev L c=some (.bool true))(h1:WC P m Q w0 n x L A):WC P m Q w0 n (.cond c x y) L A:=
 fun a w hd0 hf hs hk=>wpIn_cond_true (hf.eval hc) (h1 a w hd0 hf hs hk)
theorem AM{c:Operand}{x y:Code}(hc:ev L c=some (.bool false))(h1:WC P m Q w0 n y L A):WC P m Q w0 n (.cond c x y) L A:=
 fun a w hd0 hf hs hk=>wpIn_cond_false (hf.eval hc) (h1 a w hd0 hf hs hk)
theorem AA(h:Ps m (Q .normal) w0 n L A):WC P m Q w0 n .skip L A:=fun a w hd0 hf hs hk=>wpIn_skip (h a w hd0 hf hs hk)
theorem AK(h:Ps m (Q .ret) w0 n L A):WC P m Q w0 n .ret L A:=fun a w hd0 hf hs hk=>wpIn_ret (h a w hd0 hf hs hk)
theorem Aj{k:Nat}(h:Ps m (Q (.exit k)) w0 n L A):WC P m Q w0 n (.exit k) L A:=fun a w hd0 hf hs hk=>wpIn_exit (h a w hd0 hf hs hk)
theorem AG{id:Nat}{c:Code}(h:WC P m (Exit.inBlock id Q) w0 n c L A):WC P m Q w0 n (.block id c) L A:=fun a w hd0 hf hs hk=>wpIn_block (h a w hd0 hf hs hk)
theorem ax{c:Code}{σ:Type}(Li:σ ->List (Nat × Value))(Ai:σ ->List Ao)(φ:σ ->Prop)(μ:σ ->Nat)(s0:σ)(h0:φ s0)(hl:Wk L (Li s0))(ha:Sub A (Ai s0))
  (round: ∀s,φ s -> ∀K:Act ->World ->Prop,(∀s',φ s' ->μ s'<μ s ->Ps m K w0 n (Li s') (Ai s')) ->WC P m (Exit.then K Q) w0 n c (Li s) (Ai s)):WC P m Q w0 n (.loop c) L A:=by
 intro a w hd0 hf hs hk
 suffices H: ∀k s,μ s<k ->φ s -> ∀a w,a.defers=m.ds ->Fr n (Li s) a ->sat w (Ai s) ->Kept w0 w ->Code.roundsIn (fz m.r) 0 P c Q k a w from
  wpIn_loop_rounds (μ s0+1) (H _ s0 (Nat.lt_succ_self _) h0 a w hd0 (hf.wk hl) (ha.sat hs) hk)
 intro k
 induction k with
 |zero=>intro s hm;omega
 |succ k ih=>
  intro s hm hφ a w hd0 hf hs hk
  rw [roundsIn_succ]
  exact round s hφ _ (fun s' hφ' hlt a' w' hd' hf' hs' hk'=>ih s' (by omega) hφ' a' w' hd' hf' hs' hk') a w hd0 hf hs hk
end
end Go.SL
/-
 The rules of the logic for regions that draw their order:what only reads is taken first,as long as nobody who may come before it turns what it reads;the rest in every order that is left. (Conditions:the program follows mixed orders.)
-/
namespace Go.SL
open Go.RowKit

theorem JY{a:Act}{ds:List Deferred}(h:a.defers=ds)(d:Option Tmp)(v:Value):(a.put d v).defers=ds:=by cases d <;>exact h
def QV(ops:Array Oper):Bool:=ops.all fun o=>match o.op with| .defer _=>false|_=>true
theorem SS{ops:Array Oper}(h:QV ops=true){j:Nat}{o:Oper}(hj:ops[j]? =some o): ∀c,o.op≠ .defer c:=by
 intro c hc
 unfold QV at h
 have:=Array.all_eq_true'.1 h o (Array.mem_of_getElem? hj)
 rw [hc] at this;cases this
theorem UB{F:Fence}{m:Nat}{P:Program}{ops:Array Oper}{Q:Exit ->Act ->World ->Prop}{S:World ->Prop}{i:Nat}{o:Oper}{v:Value}{a:Act}(hF: ∀f,F.fn f)(hi:ops[i]? =some o)(hy:YieldsIf P ops S o v a)
  {K:Act ->World ->Prop} {w:World} (hS:S w) (h:K (a.put o.dst v) w):wpOpIn F m P ops Q i K a w:=by
 unfold Go.wpOpIn
 simp only [hi]
 rcases hy with ⟨hw,hv⟩|⟨hw,rfl⟩
 ·rw [if_pos hw]
  refine⟨fun f _=>hF f,?_⟩
  rw [Oper.semAt_plain _ _ _ (J2 (hv w hS)),hv w hS];exact h
 ·rw [if_neg (by rw [hw];simp)];exact⟨fun f _=>hF f,h⟩
theorem Oa{F:Fence}{m:Nat}{P:Program}{ops:Array Oper}{Q:Exit ->Act ->World ->Prop}{S:World ->Prop}{j:Nat}{oi oj:Oper}{v:Value}(hF: ∀f,F.fn f)(hj:ops[j]? =some oj)(hap:oi.apart ops oj=true)
  (hsi: ∀cs b,oi.op≠ .select cs b) (hsj: ∀cs b,oj.op≠ .select cs b) (hdj: ∀c,oj.op≠ .defer c)
  (hQ: ∀c a w,Q (.panic c) (a.put oi.dst v) w ->Q (.panic c) a w) {K:Act ->World ->Prop} {a:Act} {w:World}
  (hy:YieldsIf P ops S oi v a) (h:wpOpIn F m P ops Q j K (a.put oi.dst v) w):
  wpOpIn F m P ops Q j (fun a' w'=>YieldsIf P ops S oi v a'/\K (a'.put oi.dst v) w') a w:=by
 obtain⟨h1,h2,h3⟩:=Oper.apart_spec hap
 have keep: ∀(a:Act),YieldsIf P ops S oi v a -> ∀u,YieldsIf P ops S oi v (a.put oj.dst u):=fun a hy u=>
  hy.of_same (execOp_put oi hsi a oj.dst u h3) (wanted_put oi a oj.dst u h3)
 have keepD: ∀d,YieldsIf P ops S oi v { a with defers:=d::a.defers } :=fun d=>hy.of_same rfl rfl
 unfold wpOpIn at*
 simp only [hj] at*
 rw [wanted_put oj a oi.dst v h1] at h
 split
 ·rename_i hw
  simp only [hw,if_true] at h
  obtain⟨_,h⟩:=h
  refine⟨fun f _=>hF f,?_⟩
  rw [Oper.semAt_plain _ _ _ hdj] at h ⊢
  rw [execOp_put oj hsj a oi.dst v h1] at h
  generalize (execOp a.eval oj).run P w=r at*
  cases r with
  |ok n w'=>
   cases n <;>simp only [Oper.uponIn] at h ⊢
   case value u=>exact⟨keep a hy u,by rw [<-Act.put_comm a v u h2];exact h⟩
   case skip=>exact⟨keep a hy _,by rw [<-Act.put_comm a v undef h2];exact h⟩
   case defer d=>
    refine⟨keep _ (keepD d) _,?_⟩
    rw [<-Act.put_comm _ v undef h2,<-Act.put_defers]
    exact h
   case enter f args=>
    refine⟨h.1,CallsIn.mono h.2 fun e w'' he=>?_⟩
    cases e with
    |returned u=>exact⟨keep a hy u,by rw [<-Act.put_comm a v u h2];exact he⟩
    |panicked c=>exact hQ _ _ _ he
    |outgrown=>exact he
   case row row args=>exact⟨h.1,RowsIn.mono h.2 fun u w'' he=>⟨keep a hy u,by rw [<-Act.put_comm a v u h2];exact he⟩⟩
   case round l f tmps assign body=>
    refine⟨h.1,RoundIn.mono h.2 fun e w'' he=>?_⟩
    cases e with
    |returned u=>exact⟨keep a hy u,by rw [<-Act.put_comm a v u h2];exact he⟩
    |panicked c=>exact hQ _ _ _ he
    |outgrown=>exact he
  |halt x w'=>
   cases x <;>simp only [Oper.uponIn] at h ⊢
   case panic u=>exact hQ _ _ _ h
 ·rename_i hw
  rw [if_neg (by simpa using hw)] at h
  refine⟨fun f _=>hF f,keep a hy _,?_⟩
  rw [<-Act.put_comm a v undef h2]
  exact h.2

def VO(P:Program)(m:Md)(ops:Array Oper)(Q:Exit ->Act ->World ->Prop)(S:World ->Prop)(J:Nat ->Nat):Nat ->Array Bool ->Act ->World ->Prop
 |0,listed,a,w=>Region.ready .any ops listed= []/\Q .normal a w
 |fuel+1,listed,a,w=>(Region.ready .any ops listed= [] ->Q .normal a w)/\
   ∀i∈Region.ready .any ops listed,wpOpIn (fz m.r) 0 P ops Q i (fun a' w'=>((J i=1 ->S w')/\(J i=2 ->w'=w))/\VO P m ops Q S J fuel (listed.setIfInBounds i true) a' w') a w
section
variable {P : Program} {m : Md} {ops : Array Oper} {Q : Exit → Act → World → Prop} {J : Nat → Nat}
theorem RU{S:World ->Prop} : ∀(fuel:Nat) (listed:Array Bool) (a:Act) (w:World),VO P m ops Q S J fuel listed a w ->wpAnyIn (fz m.r) 0 P .any ops Q fuel listed a w
 |0,_,_,_,h=>h
 |fuel+1,_,_,_,h=>⟨h.1,fun i hi=>wpOpIn_mono (fun a' w' k=>RU fuel _ a' w' k.2) (h.2 i hi)⟩
theorem LF{S T:World ->Prop}{i:Nat}{oi:Oper}{v:Value}(hi:ops[i]? =some oi)(hsel:Region.noSelect ops=true)(hdf:QV ops=true)(hJi:J i=2)
  (hQ: ∀c a w,Q (.panic c) (a.put oi.dst v) w ->Q (.panic c) a w): ∀(fuel:Nat) (listed:Array Bool) (a:Act) (w:World),
   (∀j oj,ops[j]? =some oj ->j≠i ->listed.getD j true=false ->(∀e∈oj.after,Region.binds .any e=true ->e.on≠i) ->oi.apart ops oj=true/\((∀w,T w)\/J j=2\/(J j=1/\ ∀w,S w ->T w))) ->
   i∈Region.ready .any ops listed ->YieldsIf P ops T oi v a ->T w ->
   VO P m ops Q S J fuel (listed.setIfInBounds i true) (a.put oi.dst v) w ->VO P m ops Q S J (fuel+1) listed a w:=by
 have here: ∀ {a:Act} {w:World} {K:Act ->World ->Prop},YieldsIf P ops T oi v a ->T w ->K (a.put oi.dst v) w ->wpOpIn (fz m.r) 0 P ops Q i (fun a' w'=>((J i=1 ->S w')/\(J i=2 ->w'=w))/\K a' w') a w:=
  fun hy hT hK=>UB (Tf m.r) hi hy hT ⟨⟨fun h=>(by rw [hJi] at h;cases h),fun _=>rfl⟩,hK⟩
 intro fuel
 induction fuel with
 |zero=>
  intro listed a w hfree hr hy hT H
  refine⟨fun h=>absurd (h ▸ hr) (by simp),fun j hj=>?_⟩
  by_cases hji:j=i
  ·subst hji;exact here hy hT H
  ·have:=ready_mono hj hji
   rw [H.1] at this;cases this
 |succ fuel ih=>
  intro listed a w hfree hr hy hT H
  refine⟨fun h=>absurd (h ▸ hr) (by simp),fun j hj=>?_⟩
  by_cases hji:j=i
  ·subst hji;exact here hy hT H
  ·have hH:=H.2 j (ready_mono hj hji)
   obtain⟨hjun,oj,hoj,hall⟩:=mem_ready.1 hj
   have hnot: ∀e∈oj.after,Region.binds .any e=true ->e.on≠i:=by
    intro e he hb heq
    have hl:=hall e he hb
    rw [heq] at hl
    have hi0:=(mem_ready.1 hr).1
    have hsz:i<listed.size:=by
     rcases Nat.lt_or_ge i listed.size with q|q
     ·exact q
     ·simp [Array.getElem?_eq_none q] at hl
    simp [hsz] at hl hi0
    rw [hl] at hi0;cases hi0
   obtain⟨hap,hkeep⟩:=hfree j oj hoj hji hjun hnot
   have hp:=Oa (Tf m.r) hoj hap (fun cs b=>Region.noSelect_spec hsel i oi cs b hi) (fun cs b=>Region.noSelect_spec hsel j oj cs b hoj) (SS hdf hoj) hQ hy hH
   refine wpOpIn_mono (fun a' w' h3=>⟨h3.2.1,ih _ a' w' ?_ (ready_mono hr (Ne.symm hji)) h3.1 ?_ ?_⟩) hp
   ·intro k ok hk hki hun hno
    refine hfree k ok hk hki ?_ hno
    by_cases hjk:j=k
    ·subst hjk;exact hjun
    ·rwa [getD_set_ne true hjk] at hun
   ·rcases hkeep with q|q|q
    ·exact q _
    ·rw [h3.2.1.2 q];exact hT
    ·exact q.2 _ (h3.2.1.1 q.1)
   ·rw [Array.setIfInBounds_comm _ _ hji];exact h3.2.2
def IX(ops:Array Oper)(J:Nat ->Nat)(pure:Bool)(listed:Array Bool)(i:Nat):Bool:=
 match ops[i]? with
 |none=>false
 |some oi=>Region.noSelect ops && QV ops && Nat.beq (J i) 2 && (Region.ready .any ops listed).contains i && (List.range ops.size).all fun j=>j==i ||listed.getD j true ||match ops[j]? with
   |some oj=>oj.after.any (fun e=>Region.binds .any e && e.on==i) ||((pure ||Nat.beq (J j) 2 ||Nat.beq (J j) 1) && oi.apart ops oj)
   |none=>true
theorem Jg{pure:Bool}{listed:Array Bool}{i:Nat}{oi:Oper}(hi:ops[i]? =some oi)(h:IX ops J pure listed i=true):
  Region.noSelect ops=true/\QV ops=true/\J i=2/\i∈Region.ready .any ops listed/\ ∀j oj,ops[j]? =some oj ->j≠i ->listed.getD j true=false ->(∀e∈oj.after,Region.binds .any e=true ->e.on≠i) ->oi.apart ops oj=true/\(pure=true\/J j=2\/J j=1):=by
 simp only [IX,hi,Bool.and_eq_true,List.contains_iff_mem,List.all_eq_true,List.mem_range] at h
 refine⟨h.1.1.1.1,h.1.1.1.2,Nat.eq_of_beq_eq_true h.1.1.2,h.1.2,fun j oj hj hne hun hno=>?_⟩
 have hj':=h.2 j (Array.getElem?_eq_some_iff.1 hj).1
 simp only [hj,Bool.or_eq_true,beq_iff_eq,hne,false_or,hun,Bool.false_eq_true,Bool.and_eq_true] at hj'
 rcases hj' with hj'|hj'
 ·obtain⟨e,he,hb⟩:=Array.any_eq_true'.1 hj'
  simp only [Bool.and_eq_true,beq_iff_eq] at hb
  exact absurd hb.2 (hno e he hb.1)
 ·refine⟨hj'.2,?_⟩
  rcases hj'.1 with (q|q)|q
  ·exact .inl q
  ·exact .inr (.inl (Nat.eq_of_beq_eq_true q))
  ·exact .inr (.inr (Nat.eq_of_beq_eq_true q))
end

def TR(k:Nat):List Nat ->Array Bool
 | []=>Array.replicate k false
 |i::r=>(TR k r).setIfInBounds i true
def WJ(P:Program)(m:Md)(ops:Array Oper)(Q:Exit ->Act ->World ->Prop)(w0:World)(n:Nat)(S:List Ao)(J:Nat ->Nat)(fuel:Nat)(is:List Nat)(L:List (Nat × Value))(A:List Ao):Prop:=
 ∀a w,a.defers=m.ds ->Fr n L a ->sat w A ->Kept w0 w ->VO P m ops Q (fun w=>sat w S) J fuel (TR ops.size is) a w
def WI(P:Program)(m:Md)(ops:Array Oper)(Q:Exit ->Act ->World ->Prop)(w0:World)(n:Nat)(S:List Ao)(J:Nat ->Nat)(fuel:Nat)(is:List Nat)(L:List (Nat × Value))(A:List Ao)(i:Nat):Prop:=
 ∀a w,a.defers=m.ds ->Fr n L a ->sat w A ->Kept w0 w ->wpOpIn (fz m.r) 0 P ops Q i (fun a' w'=>((J i=1 ->sat w' S)/\(J i=2 ->w'=w))/\VO P m ops Q (fun w=>sat w S) J fuel (TR ops.size (i::is)) a' w') a w
theorem WQ(w:World):sat w []:=⟨fun _=>none,fun _ _ h=>(by cases h),fun _=>rfl⟩
section
variable {P : Program} {m : Md} {ops : Array Oper} {Q : Exit → Act → World → Prop} {w0 : World} {n : Nat} {S : List Ao} {J : Nat → Nat} {fuel : Nat} {is : List Nat} {L : List (Nat × Value)} {A : List Ao} {o : Oper}
theorem BC{id:Nat}(hm:P.follows .mixedOrders=true)(S:List Ao)(J:Nat ->Nat)(h:WJ P m ops Q w0 n S J ops.size [] L A):WC P m Q w0 n (.region id ops true) L A:=
 fun a w hd0 hf hs hk=>wpIn_region_any hm (RU _ _ _ _ (h a _ hd0 hf (HW (w:=w) rfl hs) ⟨hk.os,hk.tape,hk.output,hk.size,Nat.le_succ_of_le hk.drawn⟩))
theorem Am{id:Nat}(hm:P.follows .mixedOrders=true)(J:Nat ->Nat)(h:WJ P m ops Q w0 n A J ops.size [] L A):WC P m Q w0 n (.region id ops true) L A:=BC hm A J h
theorem Tz(i:Nat){v:Value}{d:Nat}(hi:ops[i]? =some o)(hc:IX ops J false (TR ops.size is) i=true)(h:Rd P n o L S v)(hw:Wt ops o L=some true)(hd:o.dst=some d)(hn:Nat.blt d n=true)
  (hQ: ∀c a w,Q (.panic c) (a.put o.dst v) w ->Q (.panic c) a w) (hS:Sub A S) (k:WJ P m ops Q w0 n S J fuel (i::is) ((d,v)::L) A):WJ P m ops Q w0 n S J (fuel+1) is L A:=by
 intro a w hd0 hf hs hk
 obtain⟨h1,hdf,h2,h3,h4⟩:=Jg hi hc
 refine LF (T:=fun w=>sat w S) hi h1 hdf h2 hQ fuel _ a w (fun j oj hj hne hun hno=>?_) h3 (.inl ⟨Wt.wanted hw hf,fun w' hw'=>h a w' hf hw'⟩) (hS.sat hs) ?_
 ·obtain⟨q1,q2⟩:=h4 j oj hj hne hun hno
  refine⟨q1,.inr ?_⟩
  rcases q2 with q|q|q
  ·cases q
  ·exact .inl q
  ·exact .inr ⟨q,fun _ h=>h⟩
 ·exact k (a.put o.dst v) w (JY hd0 _ _) (by rw [hd];exact hf.put hn v) hs hk
theorem RZ(i:Nat){v:Value}{d:Nat}(hi:ops[i]? =some o)(hc:IX ops J true (TR ops.size is) i=true)(h:Rd P n o L [] v)(hw:Wt ops o L=some true)(hd:o.dst=some d)(hn:Nat.blt d n=true)
  (hQ: ∀c a w,Q (.panic c) (a.put o.dst v) w ->Q (.panic c) a w) (k:WJ P m ops Q w0 n S J fuel (i::is) ((d,v)::L) A):WJ P m ops Q w0 n S J (fuel+1) is L A:=by
 intro a w hd0 hf hs hk
 obtain⟨h1,hdf,h2,h3,h4⟩:=Jg hi hc
 refine LF (T:=fun _=>True) hi h1 hdf h2 hQ fuel _ a w (fun j oj hj hne hun hno=>⟨(h4 j oj hj hne hun hno).1,.inl fun _=>trivial⟩) h3 (.inl ⟨Wt.wanted hw hf,fun w' _=>h a w' hf (WQ w')⟩) trivial ?_
 exact k (a.put o.dst v) w (JY hd0 _ _) (by rw [hd];exact hf.put hn v) hs hk
theorem av(i:Nat){d:Nat}(hi:ops[i]? =some o)(hc:IX ops J true (TR ops.size is) i=true)(hw:Wt ops o L=some false)(hd:o.dst=some d)(hn:Nat.blt d n=true)
  (hQ: ∀c a w,Q (.panic c) (a.put o.dst undef) w ->Q (.panic c) a w) (k:WJ P m ops Q w0 n S J fuel (i::is) ((d,undef)::L) A):WJ P m ops Q w0 n S J (fuel+1) is L A:=by
 intro a w hd0 hf hs hk
 obtain⟨h1,hdf,h2,h3,h4⟩:=Jg hi hc
 refine LF (T:=fun _=>True) hi h1 hdf h2 hQ fuel _ a w (fun j oj hj hne hun hno=>⟨(h4 j oj hj hne hun hno).1,.inl fun _=>trivial⟩) h3 (.inr ⟨Wt.wanted hw hf,rfl⟩) trivial ?_
 exact k (a.put o.dst undef) w (JY hd0 _ _) (by rw [hd];exact hf.put hn _) hs hk
def fC(ops:Array Oper)(is:List Nat):List Nat:=Region.ready .any ops (TR ops.size is)
theorem Gp{rs:List Nat}(hr:fC ops is=rs)(hne:rs.isEmpty=false)(h: ∀i∈rs,WI P m ops Q w0 n S J fuel is L A i):WJ P m ops Q w0 n S J (fuel+1) is L A:=
 fun a w hd0 hf hs hk=>⟨fun h0=>(by rw [<-hr] at hne;unfold fC at hne;rw [h0] at hne;cases hne),fun i hi=>h i (by rw [<-hr];exact hi) a w hd0 hf hs hk⟩
theorem eM{i:Nat}(h:WI P m ops Q w0 n S J fuel is L A i): ∀j∈ [i],WI P m ops Q w0 n S J fuel is L A j:=by simpa using h
theorem Dc{i:Nat}{r:List Nat}(h:WI P m ops Q w0 n S J fuel is L A i)(h': ∀k∈r,WI P m ops Q w0 n S J fuel is L A k): ∀k∈i::r,WI P m ops Q w0 n S J fuel is L A k:=by simpa using⟨h,h'⟩
theorem B7{i:Nat}{R:Value ->List Ao ->Prop}{d:Nat}(hi:ops[i]? =some o)(h:Ac P n o L A R)(hw:Wt ops o L=some true)(hd:o.dst=some d)(hn:Nat.blt d n=true)(hJ2:Nat.beq (J i) 2=false)
  (k: ∀v A',R v A' ->(Nat.beq (J i) 1=true ->Sub A' S)/\WJ P m ops Q w0 n S J fuel (i::is) ((d,v)::L) A'):WI P m ops Q w0 n S J fuel is L A i:=by
 intro a w hd0 hf hs hk
 unfold wpOpIn
 simp only [hi]
 rw [if_pos (Wt.wanted hw hf)]
 refine(h m.r a w _ Q hf hs fun v A' w' hR hs' hk'=>?_)
 obtain⟨k1,k2⟩:=k v A' hR
 exact⟨⟨fun hJ=>(k1 (by rw [hJ];rfl)).sat hs',fun hJ=>(by rw [hJ] at hJ2;cases hJ2)⟩,k2 _ _ (JY hd0 _ _) (by rw [hd];exact hf.put hn v) hs' (hk.trans hk')⟩
theorem Cg{i:Nat}{R:Value ->List Ao ->Prop}(hi:ops[i]? =some o)(h:Ac P n o L A R)(hw:Wt ops o L=some true)(hd:o.dst=none)(hJ2:Nat.beq (J i) 2=false)
  (k: ∀v A',R v A' ->(Nat.beq (J i) 1=true ->Sub A' S)/\WJ P m ops Q w0 n S J fuel (i::is) L A'):WI P m ops Q w0 n S J fuel is L A i:=by
 intro a w hd0 hf hs hk
 unfold wpOpIn
 simp only [hi]
 rw [if_pos (Wt.wanted hw hf)]
 refine(h m.r a w _ Q hf hs fun v A' w' hR hs' hk'=>?_)
 obtain⟨k1,k2⟩:=k v A' hR
 exact⟨⟨fun hJ=>(k1 (by rw [hJ];rfl)).sat hs',fun hJ=>(by rw [hJ] at hJ2;cases hJ2)⟩,k2 _ _ (JY hd0 _ _) (by rw [hd];exact hf) hs' (hk.trans hk')⟩
theorem CN{i:Nat}{d:Nat}(hi:ops[i]? =some o)(hw:Wt ops o L=some false)(hd:o.dst=some d)(hn:Nat.blt d n=true)
  (hS:Nat.beq (J i) 1=true ->Sub A S) (k:WJ P m ops Q w0 n S J fuel (i::is) ((d,undef)::L) A):WI P m ops Q w0 n S J fuel is L A i:=by
 intro a w hd0 hf hs hk
 unfold wpOpIn
 simp only [hi]
 rw [if_neg (by rw [Wt.wanted hw hf];simp)]
 exact⟨fun _ _=>trivial,⟨fun hJ=>(hS (by rw [hJ];rfl)).sat hs,fun _=>by first|rfl|trivial⟩,k _ _ (JY hd0 _ _) (by rw [hd];exact hf.put hn _) hs hk⟩
theorem I8{i:Nat}{v:Value}{d:Nat}(hi:ops[i]? =some o)(h:Rd P n o L A v)(hw:Wt ops o L=some true)(hd:o.dst=some d)(hn:Nat.blt d n=true)
  (hS:Nat.beq (J i) 1=true ->Sub A S) (k:WJ P m ops Q w0 n S J fuel (i::is) ((d,v)::L) A):WI P m ops Q w0 n S J fuel is L A i:=by
 intro a w hd0 hf hs hk
 unfold wpOpIn
 simp only [hi]
 rw [if_pos (Wt.wanted hw hf)]
 refine⟨fun _ _=>trivial,?_⟩
 rw [Oper.semAt_plain _ _ _ (J2 (h a w hf hs)),h a w hf hs]
 exact⟨⟨fun hJ=>(hS (by rw [hJ];rfl)).sat hs,fun _=>by first|rfl|trivial⟩,k _ _ (JY hd0 _ _) (by rw [hd];exact hf.put hn v) hs hk⟩
theorem aw(hr:fC ops is= [])(h:Ps m (Q .normal) w0 n L A):WJ P m ops Q w0 n S J fuel is L A:=by
 intro a w hd0 hf hs hk
 have hr':Region.ready .any ops (TR ops.size is)= []:=hr
 cases fuel with
 |zero=>exact⟨hr',h a w hd0 hf hs hk⟩
 |succ f=>exact⟨fun _=>h a w hd0 hf hs hk,by rw [hr'];simp⟩
theorem cH{L':List (Nat × Value)}{A':List Ao}(hl:Wk L L')(ha:Sub A A')(k:WJ P m ops Q w0 n S J fuel is L' A'):WJ P m ops Q w0 n S J fuel is L A:=
 fun a w hd0 hf hs hk=>k a w hd0 (hf.wk hl) (ha.sat hs) hk
end
end Go.SL
/-
 The operations of the model,one by one,as rules of the logic. (Conditions:none;generic over the program;a type's facts are asked as closed equations.)
-/
namespace Go.SL
open Go.RowKit

def tk(P:Program)(t:TypeId):Option (Option Nat):=
 match P.underlying t with
 |some (.struct _)|some (.array _ _)=>(P.info? t).map fun i=>some i.size
 |some _=>(P.info? t).map fun _=>none
 |none=>none
def sz(P:Program)(t:TypeId):Option Nat:=(P.info? t).map (·.size)
def fo(P:Program)(t:TypeId)(f:Nat):Option (Nat × TypeId):=
 match P.underlying t with
 |some (.struct fs)=>(fs[f]?).bind fun x=>match sz P x.type with|some (_+1)=>some (x.offset,x.type)|_=>none
 |_=>none
theorem BJ{P:Program}{t:TypeId}{d:TypeDesc}(h:P.underlying t=some d)(w:World):(underlying t).run P w= .ok d w:=by simp [underlying,h]
theorem QE{P:Program}{t:TypeId}{i:TypeInfo}(h:P.info? t=some i)(w:World):(typeInfo t).run P w= .ok i w:=by simp [typeInfo,h]
theorem CY{P:Program}{t:TypeId}{k:Nat}(h:sz P t=some k)(w:World):(sizeOf t).run P w= .ok k w:=by
 unfold sz at h
 cases hi:P.info? t with
 |none=>rw [hi] at h;cases h
 |some i=>rw [hi] at h;simp at h;simp [sizeOf,QE hi,h]
theorem bQ{P:Program}{t:TypeId}(h:tk P t=some none):(∀w,(isAgg t).run P w= .ok false w):=by
 intro w
 unfold tk at h
 split at h
 ·cases hi:P.info? t <;>rw [hi] at h <;>simp at h
 ·cases hi:P.info? t <;>rw [hi] at h <;>simp at h
 ·rename_i d h1 h2 hd
  simp only [isAgg,Sem.run_bind,BJ hd,Result.andThen_ok]
  cases d <;>first|rfl|(exact absurd rfl (h1 _))|(exact absurd rfl (h2 _ _))
 ·cases h
theorem LJ{P:Program}{t:TypeId}{k:Nat}(h:tk P t=some (some k)):(∀w,(isAgg t).run P w= .ok true w)/\sz P t=some k:=by
 unfold tk at h
 split at h
 ·rename_i fs hd
  refine⟨fun w=>by simp [isAgg,BJ hd],?_⟩
  unfold sz
  cases hi:P.info? t with
  |none=>rw [hi] at h;simp at h
  |some i=>rw [hi] at h;simp at h;simp [h]
 ·rename_i l e hd
  refine⟨fun w=>by simp [isAgg,BJ hd],?_⟩
  unfold sz
  cases hi:P.info? t with
  |none=>rw [hi] at h;simp at h
  |some i=>rw [hi] at h;simp at h;simp [h]
 ·cases hi:P.info? t <;>rw [hi] at h <;>simp at h
 ·cases h
theorem GW{w:World}{b i:Nat}{cs:Array Value}{T:TypeId}{fr:Nat × Nat}{v:Value}(hb:w.heap[b]? =some (.cells cs T fr))(hc:cs[i]? =some v):w.cell? ⟨b,i,none⟩=some v:=by
 simp [World.cell?,hb,hc]
theorem HB{P:Program}{w:World}{a:Addr}{v:Value}(h:w.cell? a=some v)(m:Mode):(load a m).run P w= .ok v w:=by simp [h]
theorem EL(b i k:Nat):(⟨b,i,none⟩:Addr).add k=⟨b,i+k,none⟩:=by unfold Addr.add;split <;>simp_all
theorem HC{P:Program}{w:World}{b i:Nat}{cs:Array Value}{T:TypeId}{fr:Nat × Nat}(hb:w.heap[b]? =some (.cells cs T fr)):
  ∀(k j:Nat) (acc:Array Value),i+j+k<=cs.size ->(loadCellsFrom ⟨b,i,none⟩ j k acc).run P w= .ok (acc++((cs.toList.drop (i+j)).take k).toArray) w
 |0,j,acc,_=>by simp [loadCellsFrom]
 |k+1,j,acc,h=>by
  have hlt:i+j<cs.size:=by omega
  have hc:w.cell? ((⟨b,i,none⟩:Addr).add j)=some cs[i+j]:=by rw [EL];exact GW hb (by simp [hlt])
  simp only [loadCellsFrom,Sem.run_bind,HB hc,Result.andThen_ok]
  rw [HC hb k (j+1) _ (by omega)]
  congr 1
  have hd:cs.toList.drop (i+j)=cs[i+j]::cs.toList.drop (i+j+1):=by
   rw [List.drop_eq_getElem_cons (by simpa using hlt)];simp
  rw [hd,List.take_succ_cons,<-Nat.add_assoc]
  apply Array.ext';simp
theorem FH{P:Program}{w:World}{t:TypeId}(ht:tk P t=some none){a:Addr}{v:Value}(h:w.cell? a=some v):(loadVar t a).run P w= .ok v w:=by
 simp only [loadVar,Sem.run_bind,bQ ht,Result.andThen_ok]
 simpa using HB h .plain
theorem EZ{P:Program}{w:World}{t:TypeId}{k:Nat}(ht:tk P t=some (some k)){b i:Nat}{cs:Array Value}{T:TypeId}{fr:Nat × Nat}(hb:w.heap[b]? =some (.cells cs T fr))(hk:i+k<=cs.size):
  (loadVar t ⟨b,i,none⟩).run P w= .ok (.agg ((cs.toList.drop i).take k).toArray) w:=by
 have h:=HC (P:=P) hb k 0 #[] (by omega)
 simp only [loadVar,Sem.run_bind,(LJ ht).1,Result.andThen_ok,if_true,loadCells,CY (LJ ht).2]
 rw [h];simp
theorem FG{P:Program}{b i:Nat}{T:TypeId} : ∀(vs:List Value) (j:Nat) (cs:List Value) (w:World),w.heap[b]? =some (.cells cs.toArray T (0,0)) ->i+j+vs.length<=cs.length ->(∀v∈vs,v.oneCell'=true) ->
  ∃w',(storeCells ⟨b,i,none⟩ vs j).run P w= .ok () w'/\w'.heap[b]? =some (.cells (cs.take (i+j)++vs++cs.drop (i+j+vs.length)).toArray T (0,0))/\(∀c,c≠b ->w'.heap[c]? =w.heap[c]?)/\Kept w w'
 | [],j,cs,w,hb,hl,h1=>⟨w,by simp [storeCells],by simpa using hb,fun _ _=>rfl,.refl _⟩
 |v::vs,j,cs,w,hb,hl,h1=>by
  have hlt:i+j<cs.length:=by simp at hl;omega
  have hc:w.cell? ⟨b,i+j,none⟩=some cs[i+j]:=GW hb (by simp [hlt])
  have hb':(w.setCell ⟨b,i+j,none⟩ v).heap[b]? =some (.cells (cs.set (i+j) v).toArray T (0,0)):=by
   simp [World.setCell,Array.getElem?_modify,hb]
  obtain⟨w',hr,hh,ho,hk⟩:=FG (P:=P) (i:=i) vs (j+1) (cs.set (i+j) v) (w.setCell ⟨b,i+j,none⟩ v) hb' (by simp at hl ⊢;omega) (fun u hu=>h1 u (by simp [hu]))
  refine⟨w',?_,?_,fun c hc'=>?_,?_⟩
  ·have hfz:w.frozen? ⟨b,i+j,none⟩=false:=by simp [World.frozen?,hb]
   simp only [storeCells,Sem.run_bind,EL]
   rw [run_store P w _ v _ (h1 v (by simp))]
   simp only [hc,hfz]
   simpa using hr
  ·rw [hh]
   congr 2
   apply Array.ext'
   simp only [List.set_eq_take_append_cons_drop,hlt,if_true,List.append_assoc,List.cons_append,List.length_cons]
   rw [show i+(j+1)=(i+j)+1 from by omega,List.take_append,List.take_take,List.length_take]
   have e1:min (i+j+1) (i+j)=i+j:=by omega
   have e2:i+j+1 -min (i+j) cs.length=1:=by omega
   rw [e1,e2]
   simp only [List.take_succ_cons,List.take_zero,List.append_assoc,List.cons_append,List.nil_append]
   congr 3
   rw [List.drop_append,List.length_take,List.drop_of_length_le (by simp;omega)]
   have e3:i+j+1+vs.length -min (i+j) cs.length=vs.length+1:=by omega
   rw [e3,List.drop_succ_cons,List.drop_drop,List.nil_append]
   congr 1
   omega
  ·rw [ho c hc']
   simp only [World.setCell,Array.getElem?_modify]
   rw [if_neg (by intro h;exact hc' h.symm)]
  ·exact⟨hk.os,hk.tape,hk.output,by have:=hk.size;simpa [World.setCell] using this,hk.drawn⟩
theorem Hn{P:Program}{t:TypeId}{v:Value}{k:Nat}(ht:sz P t=some k){b i:Nat}{T:TypeId}{cs:List Value}{w:World}(hb:w.heap[b]? =some (.cells cs.toArray T (0,0)))
  (hv:v.cells.size=k) (hl:i+k<=cs.length) (h1: ∀u∈v.cells.toList,u.oneCell'=true):
  ∃w',(storeVar t ⟨b,i,none⟩ v).run P w= .ok () w'/\w'.heap[b]? =some (.cells (cs.take i++v.cells.toList++cs.drop (i+k)).toArray T (0,0))/\(∀c,c≠b ->w'.heap[c]? =w.heap[c]?)/\Kept w w':=by
 obtain⟨w',hr,hh,ho,hk⟩:=FG (P:=P) (i:=i) (b:=b) (T:=T) v.cells.toList 0 cs w hb (by simp [hv];omega) h1
 refine⟨w',?_,?_,ho,hk⟩
 ·simp only [storeVar,Sem.run_bind,CY ht,Result.andThen_ok,hv]
  simpa using hr
 ·rw [hh];simp [hv]

section
variable {P : Program} {n : Nat} {L : List (Nat × Value)} {A : List Ao} {d : Option Tmp} {ty : TypeId} {DJ : String} {af : Array Edge} {g : Option (Nat × Bool)}
theorem JF{x:Operand}{v:Value}(h:ev L x=some v):Rd P n ⟨d,.move x,ty,DJ,af,g⟩ L A v:=fun a w hf _=>by
 simp only [execOp,hf.eval h];rfl
theorem Ag{x:Operand}{v:Value}(h:ev L x=some v):Rd P n ⟨d,.assign x,ty,DJ,af,g⟩ L A v:=fun a w hf _=>by
 simp only [execOp,hf.eval h];rfl
theorem AC{c x y:Operand}{u:Value}(hc:ev L c=some (.bool true))(hx:ev L x=some u):Rd P n ⟨d,.pick c x y,ty,DJ,af,g⟩ L A u:=fun a w hf _=>by
 simp [execOp,hf.eval hc,hf.eval hx,asBool]
theorem A8{c x y:Operand}{u:Value}(hc:ev L c=some (.bool false))(hy:ev L y=some u):Rd P n ⟨d,.pick c x y,ty,DJ,af,g⟩ L A u:=fun a w hf _=>by
 simp [execOp,hf.eval hc,hf.eval hy,asBool]
theorem A9{x:Operand}{p:Addr}(h:ev L x=some (.pointer (some p))):Rd P n ⟨d,.nilCheck x,ty,DJ,af,g⟩ L A (.pointer (some p)):=fun a w hf _=>by
 simp only [execOp,hf.eval h];rfl
theorem NZ{x:Operand}{i:Nat}{vs:Array Value}{v:Value}(h:ev L x=some (.tuple vs))(hi:vs[i]? =some v):Rd P n ⟨d,.extract x i,ty,DJ,af,g⟩ L A v:=fun a w hf _=>by
 simp [execOp,hf.eval h,Instr.extract,hi]
theorem Cq{f:Fn}{xs ys:Array Operand}{us vs:List Value}(h:Xi L xs.toList=some us)(h':Xi L ys.toList=some vs):Rd P n ⟨d,.makeFunc f xs ys,ty,DJ,af,g⟩ L A (.func f us.toArray vs.toArray):=fun a w hf _=>by
 have e1:=hf.evals h
 have e2:=hf.evals h'
 simp only [execOp,Instr.makeFunc,Sem.run_bind,Sem.run_pure,Result.andThen_ok]
 congr 3 <;>(apply Array.ext';simp [e1,e2])
theorem Au{t:TypeId}{x:Operand}{b:Bool}(h:ev L x=some (.bool b)):Rd P n ⟨d,.unOp .not t x,ty,DJ,af,g⟩ L A (.bool (!b)):=fun a w hf _=>by
 simp [execOp,hf.eval h,Op.unary]
theorem F8{op:BinOp}{t t':TypeId}{x y:Operand}{k k':IntKind}{i j:Int}{r:Value}(hx:ev L x=some (.int k i))(hy:ev L y=some (.int k' j))
  (h: ∀w,(binOp op t (.int k i) (.int k' j)).run P w= .ok r w):Rd P n ⟨d,.binOp op t x y t',ty,DJ,af,g⟩ L A r:=fun a w hf _=>by
 have e:eqGuard op t x y (.int k i) (.int k' j)=pure ():=by cases op <;>rfl
 simp only [execOp,hf.eval hx,hf.eval hy,e,Sem.run_bind,Sem.run_pure,Result.andThen_ok,h]
theorem eZ{t t':TypeId}{x y:Operand}{k:IntKind}{i j:Int}(hx:ev L x=some (.int k i))(hy:ev L y=some (.int k j)):Rd P n ⟨d,.binOp .add t x y t',ty,DJ,af,g⟩ L A (.int k (k.wrap (i+j))):=F8 hx hy fun w=>by simp [binOp,Op.intArith]
theorem eR{t t':TypeId}{x y:Operand}{k:IntKind}{i j:Int}(hx:ev L x=some (.int k i))(hy:ev L y=some (.int k j)):Rd P n ⟨d,.binOp .sub t x y t',ty,DJ,af,g⟩ L A (.int k (k.wrap (i -j))):=F8 hx hy fun w=>by simp [binOp,Op.intArith]
theorem eV{t t':TypeId}{x y:Operand}{k:IntKind}{i j:Int}(hx:ev L x=some (.int k i))(hy:ev L y=some (.int k j)):Rd P n ⟨d,.binOp .mul t x y t',ty,DJ,af,g⟩ L A (.int k (k.wrap (i*j))):=F8 hx hy fun w=>by simp [binOp,Op.intArith]
theorem MH{t t':TypeId}{x y:Operand}{k:IntKind}{i j r:Int}(hx:ev L x=some (.int k i))(hy:ev L y=some (.int k j))(hr:k.wrap (i+j)=r):Rd P n ⟨d,.binOp .add t x y t',ty,DJ,af,g⟩ L A (.int k r):=hr ▸ eZ hx hy
theorem GY{t t':TypeId}{x y:Operand}{k:IntKind}{i j r:Int}(hx:ev L x=some (.int k i))(hy:ev L y=some (.int k j))(hr:k.wrap (i -j)=r):Rd P n ⟨d,.binOp .sub t x y t',ty,DJ,af,g⟩ L A (.int k r):=hr ▸ eR hx hy
theorem bG{t t':TypeId}{x y:Operand}{k:IntKind}{i j r:Int}(hx:ev L x=some (.int k i))(hy:ev L y=some (.int k j))(hr:k.wrap (i*j)=r):Rd P n ⟨d,.binOp .mul t x y t',ty,DJ,af,g⟩ L A (.int k r):=hr ▸ eV hx hy
theorem bE{t t':TypeId}{x y:Operand}{k:IntKind}{i j r:Int}(hx:ev L x=some (.int k i))(hy:ev L y=some (.int k j))(h0:j≠0)(hr:k.wrap (i.tdiv j)=r):Rd P n ⟨d,.binOp .quo t x y t',ty,DJ,af,g⟩ L A (.int k r):=hr ▸ F8 hx hy fun w=>by simp [binOp,Op.intDiv,h0]
theorem bC{t t':TypeId}{x y:Operand}{k:IntKind}{i j r:Int}(hx:ev L x=some (.int k i))(hy:ev L y=some (.int k j))(h0:j≠0)(hr:i.tmod j=r):Rd P n ⟨d,.binOp .rem t x y t',ty,DJ,af,g⟩ L A (.int k r):=hr ▸ F8 hx hy fun w=>by simp [binOp,Op.intDiv,h0]
theorem Bt{t t':TypeId}{x y:Operand}{k:IntKind}{i j:Int}(hx:ev L x=some (.int k i))(hy:ev L y=some (.int k j)):Rd P n ⟨d,.binOp .lss t x y t',ty,DJ,af,g⟩ L A (.bool (decide (i<j))):=F8 hx hy fun w=>by simp [binOp,Op.intCmp]
theorem GI{t t':TypeId}{x y:Operand}{k:IntKind}{i j:Int}(hx:ev L x=some (.int k i))(hy:ev L y=some (.int k j)):Rd P n ⟨d,.binOp .leq t x y t',ty,DJ,af,g⟩ L A (.bool (decide (i<=j))):=F8 hx hy fun w=>by simp [binOp,Op.intCmp]
theorem DI{t t':TypeId}{x y:Operand}{k:IntKind}{i j:Int}(hx:ev L x=some (.int k i))(hy:ev L y=some (.int k j)):Rd P n ⟨d,.binOp .gtr t x y t',ty,DJ,af,g⟩ L A (.bool (decide (j<i))):=F8 hx hy fun w=>by simp [binOp,Op.intCmp]
theorem Dm{t t':TypeId}{x y:Operand}{k:IntKind}{i j:Int}(hx:ev L x=some (.int k i))(hy:ev L y=some (.int k j)):Rd P n ⟨d,.binOp .geq t x y t',ty,DJ,af,g⟩ L A (.bool (decide (j<=i))):=F8 hx hy fun w=>by simp [binOp,Op.intCmp]
theorem CW{t t':TypeId}{x y:Operand}{k:IntKind}{i j:Int}(hx:ev L x=some (.int k i))(hy:ev L y=some (.int k j)):Rd P n ⟨d,.binOp .eql t x y t',ty,DJ,af,g⟩ L A (.bool (decide (i=j))):=F8 hx hy fun w=>by simp [binOp,Op.intCmp];rfl
theorem Dy{t t':TypeId}{x y:Operand}{k:IntKind}{i j:Int}(hx:ev L x=some (.int k i))(hy:ev L y=some (.int k j)):Rd P n ⟨d,.binOp .neq t x y t',ty,DJ,af,g⟩ L A (.bool (decide (i≠j))):=F8 hx hy fun w=>by
 simp only [binOp,Op.intCmp,ne_eq,not_true_eq_false,if_false,Sem.run_pure];congr 2;by_cases h:i=j <;>simp [h]
theorem OW{t t':TypeId}{x y:Operand}{u v:Value}{b:Bool}(hx:ev L x=some u)(hy:ev L y=some v)(hg: ∀w,(eqGuard .eql t x y u v).run P w= .ok () w)(h: ∀w,(binOp .eql t u v).run P w= .ok (.bool b) w):Rd P n ⟨d,.binOp .eql t x y t',ty,DJ,af,g⟩ L A (.bool b):=fun a w hf _=>by
 simp only [execOp,hf.eval hx,hf.eval hy,Sem.run_bind,hg,Result.andThen_ok,h,Sem.run_pure]
theorem cK{t t':TypeId}{x y:Operand}{u v:Value}{b:Bool}(hx:ev L x=some u)(hy:ev L y=some v)(hg: ∀w,(eqGuard .neq t x y u v).run P w= .ok () w)(h: ∀w,(binOp .neq t u v).run P w= .ok (.bool b) w):Rd P n ⟨d,.binOp .neq t x y t',ty,DJ,af,g⟩ L A (.bool b):=fun a w hf _=>by
 simp only [execOp,hf.eval hx,hf.eval hy,Sem.run_bind,hg,Result.andThen_ok,h,Sem.run_pure]
theorem A1{t:TypeId}{x:Operand}{f b i k:Nat}{u:TypeId}(hx:ev L x=some (.pointer (some ⟨b,i,none⟩)))(h:fo P t f=some (k,u)):Rd P n ⟨d,.fieldAddr t x f,ty,DJ,af,g⟩ L A (.pointer (some ⟨b,i+k,none⟩)):=fun a w hf _=>by
 unfold fo at h
 split at h
 ·rename_i fs hu
  cases hfs:fs[f]? with
  |none=>rw [hfs] at h;cases h
  |some x'=>
   rw [hfs] at h
   simp only [Option.bind_some] at h
   split at h
   ·rename_i m hs
    simp only [Option.some.injEq,Prod.mk.injEq] at h
    obtain⟨rfl,rfl⟩:=h
    simp [execOp,hf.eval hx,Instr.fieldAt,BJ hu,hfs,Instr.sureAddr,fieldPlace,CY hs,EL]
   ·cases h
 ·cases h
end
end Go.SL
/-
 Memory as the logic sees it:a block of known cells;a slice that lies at the head of a block of its own;what may be read. Loads,stores,allocations,append,reslicing. (Conditions:none;generic over the program.)
-/
namespace Go.SL
open Go.RowKit

def cl(b:Nat)(T:TypeId)(xs:List Value):Ao:=pt b (.cells xs.toArray T (0,0))
def Aa{α:Type}(a:Option Nat)(cap e:Nat)(T:TypeId)(f:α ->List Value)(l:List α):Ao:=
 match a with
 |none=>fun h=>(cap=0/\l= [])/\ ∀b,h b=none
 |some g=>fun h=> ∃cur:List Value,((∀x,(f x).length=e)/\cur.length=cap*e/\l.length<=cap/\cap<=maxLen/\cur.take (l.length*e)=l.flatMap f)/\pt g (.cells cur.toArray T (0,0)) h
def sl(a:Option Nat)(n cap:Nat):Value:=.slice (a.map fun g=>⟨g,0,none⟩) n cap

theorem Ec{α:Type}{f:α ->List Value}{e:Nat}(hf: ∀x,(f x).length=e): ∀l:List α,(l.flatMap f).length=l.length*e
 | []=>by simp
 |x::l=>by simp [List.flatMap_cons,hf,Ec hf l,Nat.add_mul,Nat.add_comm]
theorem RB{α:Type}{f:α ->List Value}{e:Nat}(hf: ∀x,(f x).length=e){j:Nat}(hj:j<e): ∀(l:List α) (i:Nat) (x:α),l[i]? =some x ->(l.flatMap f)[i*e+j]? =(f x)[j]?
 | [],i,x,h=>by simp at h
 |y::l,0,x,h=>by simp at h;subst h;simp [List.flatMap_cons,List.getElem?_append,hf,hj]
 |y::l,i+1,x,h=>by
  simp at h
  rw [List.flatMap_cons,List.getElem?_append_right (by rw [hf,Nat.add_mul];omega),hf]
  rw [show (i+1)*e+j -e=i*e+j from by rw [Nat.add_mul];omega]
  exact RB hf hj l i x h
theorem Kz{α:Type}{f:α ->List Value}{e:Nat}(hf: ∀x,(f x).length=e): ∀(l:List α) (i:Nat),(l.flatMap f).drop (i*e)=(l.drop i).flatMap f
 |l,0=>by simp
 | [],i+1=>by simp
 |y::l,i+1=>by
  rw [List.flatMap_cons,Nat.add_mul,Nat.one_mul,Nat.add_comm,<-List.drop_drop,List.drop_left' (hf y),Kz hf l i]
  simp
theorem Kx{α:Type}{f:α ->List Value}{e:Nat}(hf: ∀x,(f x).length=e): ∀(l:List α) (i:Nat),(l.flatMap f).take (i*e)=(l.take i).flatMap f
 |l,0=>by simp
 | [],i+1=>by simp
 |y::l,i+1=>by
  rw [List.flatMap_cons,Nat.add_mul,Nat.one_mul,Nat.add_comm,<-hf y,List.take_append,List.take_of_length_le (by omega)]
  simp only [Nat.add_sub_cancel_left,List.take_succ_cons,List.flatMap_cons]
  rw [hf y,Kx hf l i]
theorem OE{α:Type}{f:α ->List Value}{e:Nat}(hf: ∀x,(f x).length=e)(l:List α)(i:Nat)(x:α)(h:l[i]? =some x):((l.flatMap f).drop (i*e)).take e=f x:=by
 rw [Kz hf]
 have hi:i<l.length:=(List.getElem?_eq_some_iff.1 h).1
 rw [List.drop_eq_getElem_cons hi,List.flatMap_cons,(List.getElem?_eq_some_iff.1 h).2,List.take_left' (hf x)]
theorem RA{α:Type}{f:α ->List Value}{e:Nat}(hf: ∀x,(f x).length=e)(l:List α)(i:Nat)(x':α)(hi:i<l.length):
  (l.set i x').flatMap f=(l.flatMap f).take (i*e)++f x'++(l.flatMap f).drop (i*e+e):=by
 rw [Kx hf,show i*e+e=(i+1)*e from by rw [Nat.add_mul];omega,Kz hf,List.set_eq_take_append_cons_drop,if_pos hi,List.flatMap_append,List.flatMap_cons,List.append_assoc]

def W0(ao:Option Addr):Nat:=(ao.getD default).block
def Z7(ao:Option Addr):Nat:=(ao.getD default).off
structure Sv {α:Type} (A:List Ao) (v:Value) (e:Nat) (f:α ->List Value) (l:List α) (ao:Option Addr) (cap:Nat):Prop where
 val:v= .slice ao l.length cap
 adr:l≠ [] -> ∃b o,ao=some ⟨b,o,none⟩
 len: ∀x∈l,(f x).length=e
 le:l.length<=cap
 cell: ∀w,sat w A -> ∀i x,l[i]? =some x -> ∀j u,(f x)[j]? =some u ->w.cell? ⟨W0 ao,Z7 ao+(i*e+j),none⟩=some u
theorem Sv.mono{α:Type}{A B:List Ao}{v:Value}{e:Nat}{f:α ->List Value}{l:List α}{ao:Option Addr}{cap:Nat}(h:Sv B v e f l ao cap)(k:Sub A B):Sv A v e f l ao cap:=
 ⟨h.val,h.adr,h.len,h.le,fun w hs=>h.cell w (k.sat hs)⟩
theorem Sv.ptr{α:Type}{A:List Ao}{v:Value}{e:Nat}{f:α ->List Value}{l:List α}{ao:Option Addr}{cap:Nat}(h:Sv A v e f l ao cap){i:Nat}(hi:i<l.length):ao=some ⟨W0 ao,Z7 ao,none⟩:=by
 obtain⟨b,o,rfl⟩:=h.adr (by intro e;subst e;simp at hi)
 rfl
def Yt(ao:Option Addr)(lo e cap:Nat):Option Addr:=if cap=lo then ao else ao.map (·.add (lo*e))
theorem Sv.sub{α:Type}{A:List Ao}{v:Value}{e:Nat}{f:α ->List Value}{l:List α}{ao:Option Addr}{cap:Nat}(h:Sv A v e f l ao cap){lo hi:Nat}(h1:lo<=hi)(h2:hi<=l.length):
  Sv A (.slice (Yt ao lo e cap) (hi -lo) (cap -lo)) e f ((l.take hi).drop lo) (Yt ao lo e cap) (cap -lo):=by
 have hle:=h.le
 refine⟨?_,fun hl=>?_,fun x hx=>h.len x (List.mem_of_mem_take (List.mem_of_mem_drop hx)),by simp;omega,fun w hs i x hx j u hu=>?_⟩
 ·congr 1;simp;omega
 ·have hlt:lo<hi:=by
   rcases Nat.lt_or_ge lo hi with q|q
   ·exact q
   ·exfalso;apply hl;apply List.drop_eq_nil_of_le;simp;omega
  obtain⟨b,o,rfl⟩:=h.adr (by intro e;subst e;simp at h2;omega)
  refine⟨b,o+lo*e,?_⟩
  unfold Yt;rw [if_neg (by omega)]
  simp only [Option.map_some,EL]
 ·have hi':=(List.getElem?_eq_some_iff.1 hx).1
  simp only [List.length_drop,List.length_take] at hi'
  obtain⟨b,o,rfl⟩:=h.adr (by intro e;subst e;simp at hi')
  rw [List.getElem?_drop,List.getElem?_take,if_pos (by omega)] at hx
  have:=h.cell w hs _ x hx j u hu
  rw [show Yt (some ⟨b,o,none⟩) lo e cap=some ⟨b,o+lo*e,none⟩ from by unfold Yt;rw [if_neg (by omega)];simp only [Option.map_some,EL]]
  simp only [W0,Z7,Option.getD_some] at this ⊢
  rw [<-this];congr 2;rw [Nat.add_mul];omega
theorem Ij{α:Type}{g cap e:Nat}{T:TypeId}{f:α ->List Value}{l:List α}{A:List Ao}{w:World}(h:Has A (Aa (some g) cap e T f l))(hs:sat w A):
  ∃cur:List Value,((∀x,(f x).length=e)/\cur.length=cap*e/\l.length<=cap/\cap<=maxLen/\cur.take (l.length*e)=l.flatMap f)/\w.heap[g]? =some (.cells cur.toArray T (0,0)):=by
 obtain⟨R,p⟩:=h
 have:=AS p hs
 unfold Aa at this
 obtain⟨cur,h1⟩:=E3.1 this
 obtain⟨h2,h3⟩:=Co.1 h1
 exact⟨cur,h2,Cn h3⟩
theorem FX{α:Type}{cap e:Nat}{T:TypeId}{f:α ->List Value}{l:List α}{A:List Ao}{w:World}(h:Has A (Aa none cap e T f l))(hs:sat w A):cap=0/\l= []:=by
 obtain⟨R,p⟩:=h
 have:=AS p hs
 unfold Aa at this
 exact(Co.1 this).1
theorem Tt{α:Type}{e:Nat}{f:α ->List Value}{l:List α}{cur:List Value}(hf: ∀x,(f x).length=e)(ht:cur.take (l.length*e)=l.flatMap f){i:Nat}{x:α}(hx:l[i]? =some x){j:Nat}{u:Value}(hu:(f x)[j]? =some u):cur[i*e+j]? =some u:=by
 have hj:j<e:=by have:=(List.getElem?_eq_some_iff.1 hu).1;rwa [hf] at this
 have hi:i<l.length:=(List.getElem?_eq_some_iff.1 hx).1
 have hlt:i*e+j<l.length*e:=by
  have:(i+1)*e<=l.length*e:=Nat.mul_le_mul_right e hi
  rw [Nat.add_mul] at this;omega
 have:=RB hf hj l i x hx
 rw [<-ht,List.getElem?_take,if_pos hlt] at this
 rw [this,hu]
theorem Sy{α:Type}{a:Option Nat}{cap e:Nat}{T:TypeId}{f:α ->List Value}{l:List α}{A:List Ao}(hA:Has A (Aa a cap e T f l))(hf: ∀x,(f x).length=e)(hn:a=none ->l= [])(hc:l.length<=cap):Sv A (sl a l.length cap) e f l (a.map fun g=>⟨g,0,none⟩) cap:=by
 refine⟨rfl,fun hl=>?_,fun x _=>hf x,hc,fun w hs i x hx j u hu=>?_⟩
 ·cases a with
  |none=>exact absurd (hn rfl) hl
  |some g=>exact⟨g,0,rfl⟩
 ·cases a with
  |none=>rw [hn rfl] at hx;simp at hx
  |some g=>
   obtain⟨cur,⟨_,hc,hl,_,ht⟩,hb⟩:=Ij hA hs
   show w.cell? ⟨g,0+(i*e+j),none⟩=some u
   rw [Nat.zero_add]
   exact GW hb (by simpa using Tt hf ht hx hu)
theorem Fi{P:Program}{w:World}{b i:Nat} : ∀(vs:List Value) (j:Nat) (acc:Array Value),(∀q u,vs[q]? =some u ->w.cell? ⟨b,i+j+q,none⟩=some u) ->(loadCellsFrom ⟨b,i,none⟩ j vs.length acc).run P w= .ok (acc++vs.toArray) w
 | [],j,acc,_=>by simp [loadCellsFrom]
 |v::vs,j,acc,h=>by
  have hc:w.cell? ((⟨b,i,none⟩:Addr).add j)=some v:=by rw [EL];simpa using h 0 v rfl
  simp only [List.length_cons,loadCellsFrom,Sem.run_bind,HB hc,Result.andThen_ok]
  rw [Fi vs (j+1) _ (fun q u hq=>by have:=h (q+1) u (by simpa using hq);rw [show i+(j+1)+q=i+j+(q+1) from by omega];exact this)]
  congr 1
  apply Array.ext';simp
section
variable {P : Program} {n : Nat} {L : List (Nat × Value)} {A : List Ao} {d : Option Tmp} {ty : TypeId} {DJ : String} {af : Array Edge} {g : Option (Nat × Bool)}
theorem A6{t:TypeId}{x:Operand}{b i:Nat}{T:TypeId}{xs:List Value}{v:Value}(hx:ev L x=some (.pointer (some ⟨b,i,none⟩)))(ht:tk P t=some none)(hA:Has A (cl b T xs):=by repeat (first|with_reducible exact Has.here|with_reducible refine Has.there ?_))(hi:xs[i]? =some v:=by rfl):
  Rd P n ⟨d,.load t x,ty,DJ,af,g⟩ L A v:=fun a w hf hs=>by
 have hc:w.cell? ⟨b,i,none⟩=some v:=GW (hA.sat hs) (by simpa using hi)
 simp only [execOp,hf.eval hx,Instr.loadAt,Instr.sureAddr,Sem.run_bind,Sem.run_pure,Result.andThen_ok,FH ht hc]
theorem AI{t:TypeId}{x:Operand}{b i k:Nat}{T:TypeId}{xs vs:List Value}(hx:ev L x=some (.pointer (some ⟨b,i,none⟩)))(ht:tk P t=some (some k))(hA:Has A (cl b T xs):=by repeat (first|with_reducible exact Has.here|with_reducible refine Has.there ?_))(hl:i+k<=xs.length:=by exact Nat.le_of_ble_eq_true rfl)(hi:(xs.drop i).take k=vs:=by first|(simp only [List.drop_zero,List.drop_succ_cons,List.take_succ_cons,List.take_zero,Nat.zero_add];rfl)|rfl):
  Rd P n ⟨d,.load t x,ty,DJ,af,g⟩ L A (.agg vs.toArray):=fun a w hf hs=>by
 have:=EZ (P:=P) ht (i:=i) (hA.sat hs) (by simpa using hl)
 simp only [execOp,hf.eval hx,Instr.loadAt,Instr.sureAddr,Sem.run_bind,Sem.run_pure,Result.andThen_ok,this]
 simp [hi]
theorem AU{α:Type}{t:TypeId}{x:Operand}{gb cap e off i j:Nat}{T:TypeId}{f:α ->List Value}{l:List α}{y:α}{v:Value}(hx:ev L x=some (.pointer (some ⟨gb,off,none⟩)))(ht:tk P t=some none)
  (hA:Has A (Aa (some gb) cap e T f l):=by repeat (first|with_reducible exact Has.here|with_reducible refine Has.there ?_)) (hoff:off=i*e+j:=by rfl) (hl:l[i]? =some y:=by assumption) (hv:(f y)[j]? =some v:=by rfl):Rd P n ⟨d,.load t x,ty,DJ,af,g⟩ L A v:=fun ac w hf hs=>by
 obtain⟨cur,⟨hfe,_,_,_,htk⟩,hb⟩:=Ij hA hs
 have hc:w.cell? ⟨gb,off,none⟩=some v:=GW hb (by rw [hoff];simpa using Tt hfe htk hl hv)
 simp only [execOp,hf.eval hx,Instr.loadAt,Instr.sureAddr,Sem.run_bind,Sem.run_pure,Result.andThen_ok,FH ht hc]
theorem Po{α:Type}{t:TypeId}{x:Operand}{gb cap e off i:Nat}{T:TypeId}{f:α ->List Value}{l:List α}{y:α}(hx:ev L x=some (.pointer (some ⟨gb,off,none⟩)))(ht:tk P t=some (some e))
  (hA:Has A (Aa (some gb) cap e T f l):=by repeat (first|with_reducible exact Has.here|with_reducible refine Has.there ?_)) (hoff:off=i*e:=by rfl) (hl:l[i]? =some y:=by assumption):Rd P n ⟨d,.load t x,ty,DJ,af,g⟩ L A (.agg (f y).toArray):=fun ac w hf hs=>by
 obtain⟨cur,⟨hfe,hcl,hle,_,htk⟩,hb⟩:=Ij hA hs
 have hi:i<l.length:=(List.getElem?_eq_some_iff.1 hl).1
 have hlt:i*e+e<=l.length*e:=by
  have:(i+1)*e<=l.length*e:=Nat.mul_le_mul_right e hi
  rw [Nat.add_mul] at this;omega
 have hlt2:l.length*e<=cap*e:=Nat.mul_le_mul_right e hle
 have:=EZ (P:=P) ht (i:=off) hb (by simp [hcl,hoff];omega)
 simp only [execOp,hf.eval hx,Instr.loadAt,Instr.sureAddr,Sem.run_bind,Sem.run_pure,Result.andThen_ok]
 rw [this]
 have h1:=OE hfe l i y hl
 rw [<-htk,List.drop_take,List.take_take] at h1
 rw [show min e (l.length*e -i*e)=e from by omega] at h1
 rw [hoff,<-h1]
 rfl
theorem Af{α:Type}{t:TypeId}{x:Operand}{v:Value}{e off i j:Nat}{f:α ->List Value}{l:List α}{ao:Option Addr}{cap:Nat}{y:α}{u:Value}{B:List Ao}(hx:ev L x=some (.pointer (some ⟨W0 ao,off,none⟩)))(ht:tk P t=some none)
  (hA:Sv B v e f l ao cap:=by assumption) (hB:Sub A B:=by repeat (first|with_reducible exact Sub.refl|with_reducible exact Sub.nil|with_reducible refine Sub.cons (by repeat (first|with_reducible exact Ext.here|with_reducible apply Ext.there)) ?_|with_reducible refine Sub.tail ?_))
  (hp:off=Z7 ao+i*e+j:=by rfl) (hl:l[i]? =some y:=by assumption) (hv:(f y)[j]? =some u:=by rfl):Rd P n ⟨d,.load t x,ty,DJ,af,g⟩ L A u:=fun ac w hf hs=>by
 have hc:=hA.cell w (hB.sat hs) i y hl j u hv
 rw [<-Nat.add_assoc,<-hp] at hc
 simp only [execOp,hf.eval hx,Instr.loadAt,Instr.sureAddr,Sem.run_bind,Sem.run_pure,Result.andThen_ok,FH ht hc]
theorem BG{α:Type}{t:TypeId}{x:Operand}{v:Value}{e off i:Nat}{f:α ->List Value}{l:List α}{ao:Option Addr}{cap:Nat}{y:α}{B:List Ao}(hx:ev L x=some (.pointer (some ⟨W0 ao,off,none⟩)))(ht:tk P t=some (some e))
  (hA:Sv B v e f l ao cap:=by assumption) (hB:Sub A B:=by repeat (first|with_reducible exact Sub.refl|with_reducible exact Sub.nil|with_reducible refine Sub.cons (by repeat (first|with_reducible exact Ext.here|with_reducible apply Ext.there)) ?_|with_reducible refine Sub.tail ?_))
  (hp:off=Z7 ao+i*e:=by rfl) (hl:l[i]? =some y:=by assumption):Rd P n ⟨d,.load t x,ty,DJ,af,g⟩ L A (.agg (f y).toArray):=fun ac w hf hs=>by
 have hlen:=hA.len y (List.mem_of_getElem? hl)
 have h:=Fi (P:=P) (w:=w) (b:=W0 ao) (i:=off) (f y) 0 #[] (fun q u hq=>by have:=hA.cell w (hB.sat hs) i y hl q u hq;rw [hp,Nat.add_zero,Nat.add_assoc];exact this)
 rw [hlen] at h
 simp only [execOp,hf.eval hx,Instr.loadAt,Instr.sureAddr,Sem.run_bind,Sem.run_pure,Result.andThen_ok,loadVar,(LJ ht).1,if_true,loadCells,CY (LJ ht).2]
 rw [h];simp
theorem I2{α:Type}{t:TypeId}{x:Operand}{v:Value}{e off i j k:Nat}{f:α ->List Value}{l:List α}{ao:Option Addr}{cap:Nat}{y:α}{B:List Ao}{vs:List Value}(hx:ev L x=some (.pointer (some ⟨W0 ao,off,none⟩)))(ht:tk P t=some (some k))
  (hA:Sv B v e f l ao cap:=by assumption) (hB:Sub A B:=by repeat (first|with_reducible exact Sub.refl|with_reducible exact Sub.nil|with_reducible refine Sub.cons (by repeat (first|with_reducible exact Ext.here|with_reducible apply Ext.there)) ?_|with_reducible refine Sub.tail ?_))
  (hp:off=Z7 ao+i*e+j:=by rfl) (hl:l[i]? =some y:=by assumption) (hjk:j+k<=(f y).length:=by exact Nat.le_of_ble_eq_true rfl) (hv:((f y).drop j).take k=vs:=by rfl):Rd P n ⟨d,.load t x,ty,DJ,af,g⟩ L A (.agg vs.toArray):=fun ac w hf hs=>by
 have hvl:vs.length=k:=by rw [<-hv];simp;omega
 have h:=Fi (P:=P) (w:=w) (b:=W0 ao) (i:=off) vs 0 #[] (fun q u hq=>by
  have hu:(f y)[j+q]? =some u:=by
   rw [<-hv] at hq
   rw [List.getElem?_take] at hq
   split at hq
   ·rwa [List.getElem?_drop] at hq
   ·cases hq
  have:=hA.cell w (hB.sat hs) i y hl _ u hu
  rw [hp,Nat.add_zero]
  rw [<-this];congr 2;omega)
 rw [hvl] at h
 simp only [execOp,hf.eval hx,Instr.loadAt,Instr.sureAddr,Sem.run_bind,Sem.run_pure,Result.andThen_ok,loadVar,(LJ ht).1,if_true,loadCells,CY (LJ ht).2]
 rw [h];simp
theorem LP{t e:TypeId}{k:Nat}(hu:P.underlying t=some (.slice e))(hs:sz P e=some k){p:Addr}{len cap i:Nat}{kk:IntKind}{j:Int}(hj:j=i)(hi:i<len)(w:World):
  (Instr.indexAt t (.slice (some p) len cap) (.int kk j)).run P w= .ok (.pointer (some (p.add (i*k)))) w:=by
 subst hj
 have h0:(0:Int)<=(i:Int)/\(i:Int)<(len:Int):=by omega
 simp [Instr.indexAt,asIntOf,BJ hu,CY hs,h0.1,hi]
theorem AT{t et:TypeId}{x y:Operand}{gb cap e len:Nat}{kk:IntKind}{j:Int}(i:Nat)(hx:ev L x=some (sl (some gb) len cap))(hy:ev L y=some (.int kk j))
  (hu:P.underlying t=some (.slice et)) (hz:sz P et=some e) (hj:j=i:=by rfl) (hi:i<len:=by omega):Rd P n ⟨d,.indexAddr t x y,ty,DJ,af,g⟩ L A (.pointer (some ⟨gb,i*e,none⟩)):=fun ac w hf hs=>by
 simp only [execOp,hf.eval hx,hf.eval hy,sl,Option.map_some,Sem.run_bind,LP hu hz hj hi w,Result.andThen_ok,Sem.run_pure,EL,Nat.zero_add]
theorem AO{α:Type}{t et:TypeId}{x y:Operand}{v:Value}{e:Nat}{f:α ->List Value}{l:List α}{ao:Option Addr}{cap:Nat}{kk:IntKind}{j:Int}{B:List Ao}(i:Nat)(hx:ev L x=some v)(hy:ev L y=some (.int kk j))
  (hu:P.underlying t=some (.slice et)) (hz:sz P et=some e) (hA:Sv B v e f l ao cap:=by assumption) (hj:j=i:=by rfl) (hi:i<l.length:=by omega):Rd P n ⟨d,.indexAddr t x y,ty,DJ,af,g⟩ L A (.pointer (some ⟨W0 ao,Z7 ao+i*e,none⟩)):=fun ac w hf hs=>by
 have hp:=hA.ptr hi
 rw [hA.val,hp] at hx
 simp only [execOp,hf.eval hx,hf.eval hy,Sem.run_bind,LP hu hz hj hi w,Result.andThen_ok,Sem.run_pure,EL]
theorem H9{α:Type}{t et:TypeId}{x:Operand}{ylo yhi:Option Operand}{v:Value}{e:Nat}{f:α ->List Value}{l:List α}{ao:Option Addr}{cap:Nat}{B:List Ao}(lo hi:Nat)(hx:ev L x=some v)
  (hlo:(match ylo with|none=>lo=0|some y=> ∃kk,ev L y=some (.int kk (lo:Int)))) (hhi:(match yhi with|none=>hi=l.length|some y=> ∃kk,ev L y=some (.int kk (hi:Int))))
  (hu:P.underlying t=some (.slice et)) (hz:sz P et=some e) (hA:Sv B v e f l ao cap:=by assumption) (h1:lo<=hi:=by omega) (h2:hi<=l.length:=by omega):Rd P n ⟨d,.slice t x ylo yhi none,ty,DJ,af,g⟩ L A (.slice (Yt ao lo e cap) (hi -lo) (cap -lo)):=fun ac w hf hs=>by
 rw [hA.val] at hx
 have h3:hi<=cap:=Nat.le_trans h2 hA.le
 have b1:(0:Int)<=(lo:Int)/\(lo:Int)<=(hi:Int):=by omega
 have b2:(0:Int)<=(hi:Int)/\(hi:Int)<=(cap:Int):=by omega
 have e1:(0:Int)<=(lo:Int):=b1.1
 cases ylo with
 |none=>
  subst hlo
  cases yhi with
  |none=>
   subst hhi
   simp [execOp,hf.eval hx,Instr.sliceAt,Instr.slice,BJ hu,Instr.sliceBounds,CY hz,Yt]
  |some z=>
   obtain⟨k2,hz2⟩:=hhi
   simp [execOp,hf.eval hx,hf.eval hz2,Instr.sliceAt,Instr.slice,BJ hu,Instr.sliceBounds,Instr.sliceBound,asIntOf,h3,CY hz,Yt]
 |some y=>
  obtain⟨k1,hy1⟩:=hlo
  cases yhi with
  |none=>
   subst hhi
   simp [execOp,hf.eval hx,hf.eval hy1,Instr.sliceAt,Instr.slice,BJ hu,Instr.sliceBounds,Instr.sliceBound,asIntOf,h1,CY hz,Yt]
  |some z=>
   obtain⟨k2,hz2⟩:=hhi
   simp [execOp,hf.eval hx,hf.eval hy1,hf.eval hz2,Instr.sliceAt,Instr.slice,BJ hu,Instr.sliceBounds,Instr.sliceBound,asIntOf,h1,h3,CY hz,Yt]
theorem BA{t:TypeId}{x:Operand}{et:TypeId}{ao:Option Addr}{k cap:Nat}{ts:Array TypeId}(hx:ev L x=some (.slice ao k cap))(ht:ts[0]? =some t)(hu:P.underlying t=some (.slice et)):
  Rd P n ⟨d,.call ⟨.builtin .len, #[x],ts⟩,ty,DJ,af,g⟩ L A (.int .i64 k):=fun a w hf _=>by
 simp [execOp,resolve,invoke,Go.builtin,Builtin.len_,hf.eval hx,ht,BJ hu,goInt]
theorem LZ{t et:TypeId}{x y:Operand}{a:Option Nat}{k cap:Nat}{kk:IntKind}{j:Int}{e:Nat}(i:Nat)(hx:ev L x=some (sl a k cap))(hy:ev L y=some (.int kk j))(hu:P.underlying t=some (.slice et))(hz:sz P et=some e)(hj:j=i:=by rfl)(hi:i<=cap:=by omega):
  Rd P n ⟨d,.slice t x none (some y) none,ty,DJ,af,g⟩ L A (sl a i cap):=fun ac w hf _=>by
 subst hj
 have h0:(0:Int)<=(i:Int)/\(i:Int)<=(cap:Int):=by omega
 simp [execOp,hf.eval hx,hf.eval hy,Instr.sliceAt,Instr.slice,BJ hu,sl,Instr.sliceBounds,Instr.sliceBound,asIntOf,h0.1,hi,CY hz]
 cases a <;>simp [Addr.add]
end
theorem YH{α:Type}{a:Option Nat}{cap e:Nat}{T:TypeId}{f:α ->List Value}{l:List α}{A:List Ao}{w:World}(h:Has A (Aa a cap e T f l))(hs:sat w A)(hl:0<l.length): ∃gb,a=some gb:=by
 cases a with
 |none=>have:=(FX h hs).2;subst this;simp at hl
 |some gb=>exact⟨gb,rfl⟩
theorem MB{α:Type}{a:Option Nat}{cap e:Nat}{T:TypeId}{f:α ->List Value}{l:List α}{A:List Ao}{w:World}(h:Has A (Aa a cap e T f l))(hs:sat w A):l.length<=cap:=by
 cases a with
 |none=>have:=(FX h hs).2;subst this;simp
 |some gb=>obtain⟨cur,⟨_,_,hle,_⟩,_⟩:=Ij h hs;exact hle
theorem Cd{P:Program}{m:Md}{Q:Exit ->Act ->World ->Prop}{w0:World}{n:Nat}{c:Code}{L:List (Nat × Value)}{A:List Ao}{α:Type}{a:Option Nat}{cap e:Nat}{T:TypeId}{f:α ->List Value}{l:List α}(h:Has A (Aa a cap e T f l))(hl:0<l.length)
  (k: ∀gb,a=some gb ->l.length<=cap ->WC P m Q w0 n c L A):WC P m Q w0 n c L A:=fun ac w hd0 hf hs hk=>by
 obtain⟨gb,hg⟩:=YH h hs hl
 exact k gb hg (MB h hs) ac w hd0 hf hs hk
theorem Cz{P:Program}{m:Md}{Q:Exit ->Act ->World ->Prop}{w0:World}{n:Nat}{c:Code}{L:List (Nat × Value)}{A A':List Ao}(h: ∀w,sat w A ->sat w A')(k:WC P m Q w0 n c L A'):WC P m Q w0 n c L A:=fun ac w hd0 hf hs hk=>k ac w hd0 hf (h w hs) hk
theorem ER{P:Program}{m:Md}{ops:Array Oper}{Q:Exit ->Act ->World ->Prop}{w0:World}{n:Nat}{rest:List Oper}{L:List (Nat × Value)}{A A':List Ao}(h: ∀w,sat w A ->sat w A')(k:WL P m ops Q w0 n rest L A'):WL P m ops Q w0 n rest L A:=fun ac w hd0 hf hs hk=>k ac w hd0 hf (h w hs) hk
theorem cL{m:Md}{Q:Act ->World ->Prop}{w0:World}{n:Nat}{L L':List (Nat × Value)}{A A':List Ao}(hl:Wk L L')(ha:Sub A A')(k:Ps m Q w0 n L' A'):Ps m Q w0 n L A:=fun ac w hd0 hf hs hk=>k ac w hd0 (hf.wk hl) (ha.sat hs) hk
theorem I3{m:Md}{Q:Act ->World ->Prop}{w0:World}{n:Nat}{L:List (Nat × Value)}{A A':List Ao}(h: ∀w,sat w A ->sat w A')(k:Ps m Q w0 n L A'):Ps m Q w0 n L A:=fun ac w hd0 hf hs hk=>k ac w hd0 hf (h w hs) hk
theorem BO{α:Type}{e:Nat}{T:TypeId}{f:α ->List Value}{A:List Ao}{w:World}(h:sat w A):sat w (Aa none 0 e T f ([]:List α)::A):=by
 obtain⟨hh,a,b⟩:=h
 exact⟨hh,a,fun _=>none,hh,fun _=>.inl rfl,fun _=>rfl,⟨⟨rfl,rfl⟩,fun _=>rfl⟩,b⟩
end Go.SL
/-
 The operations that act,as rules of the logic:stores,new blocks,append,calls;a function's contract. (Conditions:none;generic over the program.)
-/
namespace Go.SL
open Go.RowKit

def zr(P:Program)(t:TypeId):Option (List Value):=((P.info? t).bind (·.zero)).map fun z=>z.cells.toList
theorem Mf{P:Program}{t:TypeId}{zs:List Value}(h:zr P t=some zs): ∃z:Value,z.cells.toList=zs/\ ∀w,(zeroValue t).run P w= .ok z w:=by
 unfold zr at h
 cases hi:P.info? t with
 |none=>rw [hi] at h;simp at h
 |some i=>
  rw [hi] at h
  simp only [Option.bind_some,Option.map_eq_some_iff] at h
  obtain⟨z,hz,hc⟩:=h
  exact⟨z,hc,fun w=>by simp [zeroValue,QE hi,hz]⟩
theorem IU{w:World}{o:Obj} :Kept w { w with heap:=w.heap.push o } :=⟨rfl,rfl,rfl,by simp,Nat.le_refl _⟩
section
variable {P : Program} {n : Nat} {L : List (Nat × Value)} {A : List Ao} {d : Option Tmp} {ty : TypeId} {DJ : String} {af : Array Edge} {g : Option (Nat × Bool)}
theorem AZ{t:TypeId}{zs:List Value}(h:zr P t=some zs):Ac P n ⟨d,.alloc t,ty,DJ,af,g⟩ L A (fun v A'=> ∃b,v= .pointer (some ⟨b,0,none⟩)/\A'=cl b t zs::A):=
 Ew fun a w hf hs=>by
  obtain⟨z,hz,hr⟩:=Mf h
  refine⟨_,{ w with heap:=w.heap.push (.cells z.cells t) },_,.inl ?_,⟨w.heap.size,rfl,rfl⟩,?_,IU⟩
  ·simp [execOp,Instr.alloc,hr,newVar,newRow]
  ·have:=GR (w:=w) (w':= { w with heap:=w.heap.push (.cells z.cells t) }) (o:=.cells z.cells t) rfl hs
   rw [<-hz];simpa [cl] using this
theorem Ay{t:TypeId}{x:Operand}{v:Value}{xs:List Value}(hx:ev L x=some v)(hv:v.cells=xs.toArray:=by rfl):Ac P n ⟨d,.box t x,ty,DJ,af,g⟩ L A (fun r A'=> ∃b,r= .pointer (some ⟨b,0,none⟩)/\A'=cl b t xs::A):=
 Ew fun a w hf hs=>by
  refine⟨_,{ w with heap:=w.heap.push (.cells xs.toArray t) },_,.inl ?_,⟨w.heap.size,rfl,rfl⟩,?_,IU⟩
  ·simp [execOp,hf.eval hx,Instr.box,newVar,newRow,hv]
  ·exact GR (w:=w) (w':= { w with heap:=w.heap.push (.cells xs.toArray t) }) (o:=.cells xs.toArray t) rfl hs
theorem AV{t:TypeId}{x y:Operand}{b i k:Nat}{T:TypeId}{xs ys R:List _}{v:Value}(hx:ev L x=some (.pointer (some ⟨b,i,none⟩)))(hy:ev L y=some v)(ht:sz P t=some k)(hE:Ext A (cl b T xs) R:=by repeat (first|with_reducible exact Ext.here|with_reducible apply Ext.there))
  (hv:v.cells.size=k:=by rfl) (hl:i+k<=xs.length:=by exact Nat.le_of_ble_eq_true rfl) (h1: ∀u∈v.cells.toList,u.oneCell'=true:=by simp [Value.cells,Value.oneCell']) (hr:xs.take i++v.cells.toList++xs.drop (i+k)=ys:=by simp only [List.take_succ_cons,List.take_zero,List.drop_succ_cons,List.drop_zero,List.cons_append,List.nil_append,List.append_nil,List.drop_nil,List.take_nil,List.toList_toArray,Value.cells];rfl):
  Ac P n ⟨none,.store t x y,ty,DJ,af,g⟩ L A (fun _ A'=>A'=cl b T ys::R):=
 Ew fun a w hf hs=>by
  have hs':=AS hE hs
  obtain⟨w',hr',hh,ho,hk⟩:=Hn (P:=P) (v:=v) ht (i:=i) (Cn hs') hv hl h1
  refine⟨_,w',_,.inr ⟨?_,rfl⟩,rfl,?_,hk⟩
  ·simp only [execOp,hf.eval hx,hf.eval hy,Instr.storeAt,Instr.sureAddr,Sem.run_bind,Sem.run_pure,Result.andThen_ok,hr']
  ·exact Fq (by rw [hh,hr]) (fun c hc x hx=>by rw [ho c hc];exact hx) hs'
theorem Ar{t:TypeId}{x y:Operand}{b i:Nat}{T:TypeId}{xs ys R:List _}{v:Value}(hx:ev L x=some (.pointer (some ⟨b,i,none⟩)))(hy:ev L y=some v)(ht:sz P t=some 1)(hE:Ext A (cl b T xs) R:=by repeat (first|with_reducible exact Ext.here|with_reducible apply Ext.there))
  (hl:Nat.blt i xs.length=true:=by rfl) (h1:v.oneCell'=true:=by rfl) (hr:xs.set i v=ys:=by simp only [Nat.zero_add,List.set_cons_zero,List.set_cons_succ];rfl):
  Ac P n ⟨none,.store t x y,ty,DJ,af,g⟩ L A (fun _ A'=>A'=cl b T ys::R):=by
 have hc:v.cells= #[v]:=by cases v <;>first|rfl|cases h1
 have hl':i<xs.length:=by simpa [Nat.blt_eq] using hl
 refine AV hx hy ht hE (by rw [hc];rfl) (by omega) (by rw [hc];simpa using h1) ?_
 rw [hc,<-hr,List.set_eq_take_append_cons_drop,if_pos hl']
 simp
theorem Aq{α:Type}{t:TypeId}{x y:Operand}{gb cap e off i j:Nat}{T:TypeId}{f:α ->List Value}{l:List α}{R:List Ao}{u:α}{v:Value}(u':α)(hx:ev L x=some (.pointer (some ⟨gb,off,none⟩)))(hy:ev L y=some v)(ht:sz P t=some 1)
  (hE:Ext A (Aa (some gb) cap e T f l) R:=by repeat (first|with_reducible exact Ext.here|with_reducible apply Ext.there)) (hoff:off=i*e+j:=by rfl) (hl:l[i]? =some u:=by assumption) (hj:j<e:=by omega) (h1:v.oneCell'=true:=by rfl) (hu:(f u).set j v=f u':=by rfl):
  Ac P n ⟨none,.store t x y,ty,DJ,af,g⟩ L A (fun _ A'=>A'=Aa (some gb) cap e T f (l.set i u')::R):=
 Ew fun ac w hf hs=>by
  have hs':=AS hE hs
  unfold Aa at hs'
  obtain⟨cur,h2⟩:=E3.1 hs'
  obtain⟨⟨hfe,hcl,hle,hm,htk⟩,h3⟩:=Co.1 h2
  have hi:i<l.length:=(List.getElem?_eq_some_iff.1 hl).1
  have hc:v.cells= #[v]:=by cases v <;>first|rfl|cases h1
  have hlt:i*e+e<=l.length*e:=by
   have:(i+1)*e<=l.length*e:=Nat.mul_le_mul_right e hi
   rw [Nat.add_mul] at this;omega
  have hlt2:l.length*e<=cap*e:=Nat.mul_le_mul_right e hle
  obtain⟨w',hr',hh,ho,hk⟩:=Hn (P:=P) (v:=v) ht (i:=off) (Cn h3) (by rw [hc];rfl) (by rw [hcl];omega) (by rw [hc];simpa using h1)
  refine⟨_,w',_,.inr ⟨?_,rfl⟩,rfl,?_,hk⟩
  ·simp only [execOp,hf.eval hx,hf.eval hy,Instr.storeAt,Instr.sureAddr,Sem.run_bind,Sem.run_pure,Result.andThen_ok,hr']
  ·unfold Aa
   refine E3.2 ⟨cur.set off v,Co.2 ⟨⟨hfe,by simp [hcl],by simp [hle],hm,?_⟩,?_⟩⟩
   ·rw [List.length_set,List.take_set,htk,hoff]
    rw [RA hfe l i u' hi,<-hu]
    have hcell:=OE hfe l i u hl
    have hlen:(l.flatMap f).length=l.length*e:=Ec hfe l
    apply List.ext_getElem?
    intro q
    rw [List.getElem?_set]
    rw [List.append_assoc,List.getElem?_append,List.length_take,hlen]
    have e1:min (i*e) (l.length*e)=i*e:=by omega
    rw [e1]
    by_cases hq:q<i*e
    ·rw [if_neg (by omega),if_pos hq,List.getElem?_take,if_pos hq]
    ·rw [if_neg hq,List.getElem?_append,List.length_set,hfe]
     by_cases hq2:q -i*e<e
     ·rw [if_pos hq2,List.getElem?_set,hfe]
      by_cases hq3:i*e+j=q
      ·have a1:j=q -i*e:=by omega
       have a2:i*e+j<l.length*e:=by omega
       rw [if_pos hq3,if_pos a1,if_pos a2,if_pos hj]
      ·rw [if_neg hq3,if_neg (by omega),<-hcell,List.getElem?_take,if_pos hq2,List.getElem?_drop]
       congr 1;omega
     ·rw [if_neg hq2,if_neg (by omega),List.getElem?_drop]
      congr 1;omega
   ·refine Fq (o:=.cells cur.toArray T (0,0)) ?_ (fun c hc x hx=>by rw [ho c hc];exact hx) h3
    rw [hh,hc]
    congr 2
    rw [List.set_eq_take_append_cons_drop,if_pos (by rw [hcl];omega)]
    simp
theorem HL{α:Type}{t:TypeId}{x y:Operand}{gb cap e off i:Nat}{T:TypeId}{f:α ->List Value}{l:List α}{R:List Ao}{vs:Array Value}(u':α)(hx:ev L x=some (.pointer (some ⟨gb,off,none⟩)))(hy:ev L y=some (.agg vs))(ht:sz P t=some e)
  (hE:Ext A (Aa (some gb) cap e T f l) R:=by repeat (first|with_reducible exact Ext.here|with_reducible apply Ext.there)) (hoff:off=i*e:=by rfl) (hl:i<l.length:=by omega) (h1: ∀v∈f u',v.oneCell'=true:=by simp [Value.oneCell']) (hu:vs.toList=f u':=by rfl):
  Ac P n ⟨none,.store t x y,ty,DJ,af,g⟩ L A (fun _ A'=>A'=Aa (some gb) cap e T f (l.set i u')::R):=
 Ew fun ac w hf hs=>by
  have hs':=AS hE hs
  unfold Aa at hs'
  obtain⟨cur,h2⟩:=E3.1 hs'
  obtain⟨⟨hfe,hcl,hle,hm,htk⟩,h3⟩:=Co.1 h2
  have hc:(Value.agg vs).cells.toList=f u':=hu
  have hlt:i*e+e<=l.length*e:=by
   have:(i+1)*e<=l.length*e:=Nat.mul_le_mul_right e hl
   rw [Nat.add_mul] at this;omega
  have hlt2:l.length*e<=cap*e:=Nat.mul_le_mul_right e hle
  obtain⟨w',hr',hh,ho,hk⟩:=Hn (P:=P) (v:=.agg vs) ht (i:=off) (Cn h3) (by rw [<-Array.length_toList,hc,hfe]) (by rw [hcl];omega) (by rw [hc];exact h1)
  refine⟨_,w',_,.inr ⟨?_,rfl⟩,rfl,?_,hk⟩
  ·simp only [execOp,hf.eval hx,hf.eval hy,Instr.storeAt,Instr.sureAddr,Sem.run_bind,Sem.run_pure,Result.andThen_ok,hr']
  ·unfold Aa
   refine E3.2 ⟨cur.take off++f u'++cur.drop (off+e),Co.2 ⟨⟨hfe,by simp [hcl,hfe];omega,by simp [hle],hm,?_⟩,?_⟩⟩
   ·rw [List.length_set,RA hfe l i u' hl,<-htk,List.take_take,List.drop_take,hoff]
    generalize hX:i*e=X at hlt
    generalize hY:l.length*e=Y at hlt hlt2
    generalize hZ:cap*e=Z at hlt2 hcl
    apply List.ext_getElem?
    intro q
    simp only [List.getElem?_take,List.getElem?_append,List.length_append,List.length_take,hfe,List.getElem?_drop,hcl]
    have e1:min X Y=X:=by omega
    have e2:min X Z=X:=by omega
    rw [e1,e2]
    by_cases q1:q<X
    ·have:q<Y:=by omega
     have:q<X+e:=by omega
     simp [*]
    ·by_cases q2:q<X+e
     ·have:q<Y:=by omega
      have:q -X<e:=by omega
      simp [*]
     ·by_cases q3:q<Y
      ·have:q -(X+e)<Y -(X+e):=by omega
       simp [*]
      ·have: ¬q -(X+e)<Y -(X+e):=by omega
       simp [*]
   ·refine Fq (o:=.cells cur.toArray T (0,0)) ?_ (fun c hc x hx=>by rw [ho c hc];exact hx) h3
    rw [hh,hc]
theorem YG{α:Type}{a:Option Nat}{cap e:Nat}{T:TypeId}{f:α ->List Value}{l:List α}(k:Nat): ∀h,Aa a cap e T f l h ->Aa a cap e T f (l.take k) h:=by
 intro h
 cases a with
 |none=>rintro⟨⟨h1,h2⟩,h3⟩;exact⟨⟨h1,by simp [h2]⟩,h3⟩
 |some gb=>
  rintro⟨cur,⟨hfe,hcl,hle,hm,htk⟩,h3⟩
  refine⟨cur,⟨hfe,hcl,by simp;omega,hm,?_⟩,h3⟩
  rw [<-Kx hfe,<-htk,List.take_take,List.length_take]
  congr 1
  rw [Nat.min_def]
  split
  ·have:k*e<=l.length*e:=Nat.mul_le_mul_right e ‹_›
   omega
  ·have:l.length*e<=k*e:=Nat.mul_le_mul_right e (by omega)
   omega
end
end Go.SL
/-
 A function's contract,its proof by its body,its use at a call. (Conditions:none;generic over the program.)
-/
namespace Go.SL
open Go.RowKit

structure Ct (P:Program) (f:FuncId) (args:List Value) (pre:List Ao) {ρ:Type} (val:ρ ->Value) (post:ρ ->List Ao):Prop where
 out: ∀(F:List Ao) (w:World),sat w (pre++F) ->Calls P f args.toArray w (fun e w'=> ∃r,e= .returned (val r)/\sat w' (post r++F)/\Kept w w')
def YJ:Nat ->List Value ->List (Nat × Value)
 |_,[]=> []
 |i,v::r=>(i,v)::YJ (i+1) r
theorem O5: ∀(vs:List Value) (i x:Nat) (v:Value),Dj (YJ i vs) x=some v ->i<=x/\vs[x -i]? =some v
 | [],i,x,v,h=>by simp [YJ,Dj] at h
 |u::r,i,x,v,h=>by
  unfold YJ Dj at h
  by_cases hx:i=x
  ·subst hx;simp at h;simp [h]
  ·have hb:Nat.beq i x=false:=Bool.eq_false_iff.2 fun e=>hx (Nat.eq_of_beq_eq_true e)
   rw [hb] at h
   have:=O5 r (i+1) x v h
   refine⟨by omega,?_⟩
   rw [show x -i=(x -(i+1))+1 from by omega]
   simpa using this.2
def Rs(P:Program)(fn:Func)(n:Nat)(L:List (Nat × Value))(A:List Ao)(v:Value):Prop:=
 ∀a w,Fr n L a ->sat w A ->(results fn a.tmps).run P w= .ok v w
section
variable {P : Program} {fn : Func} {n : Nat} {L : List (Nat × Value)} {A : List Ao}
theorem EI{a:Act}(hf:Fr n L a){t:Nat}{v:Value}(h:Dj L t=some v):a.tmps.getD t undef=v:=by
 simp [Array.getD_eq_getD_getElem?,hf.2 t v h]
theorem Ke(hr:fn.results= #[]):Rs P fn n L A (.tuple #[]):=fun _ _ _ _=>results_none hr _ _ _
theorem BR{t:Nat}{v:Value}(hr:fn.results= #[.tmp t])(h:Dj L t=some v):Rs P fn n L A v:=fun a w hf _=>by rw [results_tmp hr,EI hf h]
theorem OV{t u:Nat}{v x:Value}(hr:fn.results= #[.tmp t,.tmp u])(h:Dj L t=some v)(h':Dj L u=some x):Rs P fn n L A (.tuple #[v,x]):=fun a w hf _=>by rw [results_tmp2 hr,EI hf h,EI hf h']
theorem Fl{t:Nat}{ty:TypeId}{b i k:Nat}{T:TypeId}{xs vs:List Value}(hr:fn.results= #[.cell t ty])(h:Dj L t=some (.pointer (some ⟨b,i,none⟩)))(ht:tk P ty=some (some k))(hA:Has A (cl b T xs):=by repeat (first|with_reducible exact Has.here|with_reducible refine Has.there ?_))(hl:i+k<=xs.length:=by exact Nat.le_of_ble_eq_true rfl)(hv:(xs.drop i).take k=vs:=by rfl):
  Rs P fn n L A (.agg vs.toArray):=fun a w hf hs=>by
 have e:=EI hf h
 have:=EZ (P:=P) ht (i:=i) (hA.sat hs) (by simpa using hl)
 simp only [results,hr,List.mapM_toArray,List.mapM_cons,List.mapM_nil,Sem.run_bind,Sem.run_map,e,asAddr,Sem.run_pure,Result.andThen_ok,this]
 simp [hv]
theorem gR{t:Nat}{ty:TypeId}{b i:Nat}{T:TypeId}{xs:List Value}{v:Value}(hr:fn.results= #[.cell t ty])(h:Dj L t=some (.pointer (some ⟨b,i,none⟩)))(ht:tk P ty=some none)(hA:Has A (cl b T xs):=by repeat (first|with_reducible exact Has.here|with_reducible refine Has.there ?_))(hv:xs[i]? =some v:=by rfl):
  Rs P fn n L A v:=fun a w hf hs=>by
 have e:=EI hf h
 have hc:w.cell? ⟨b,i,none⟩=some v:=GW (hA.sat hs) (by simpa using hv)
 simp only [results,hr,List.mapM_toArray,List.mapM_cons,List.mapM_nil,Sem.run_bind,Sem.run_map,e,asAddr,Sem.run_pure,Result.andThen_ok,FH ht hc]
 simp
end
section
variable {P : Program}
def CtD(P:Program)(f:FuncId)(args:List Value)(pre:List Ao){ρ:Type}(post:ρ ->List Ao):Prop:=
 ∀(F:List Ao) (w:World) (u:FrameMode),sat w (pre++F) ->CallsDIn (fz none) 0 P f args.toArray u w (fun e u' w'=>u'=u/\ ∃r v,e= .returned v/\sat w' (post r++F)/\Kept w w')
def Vj(D:Nat):Ao:=pt D (.deferred (some []))
def aI(D:Nat):Deferred:= { target:=.collected D,args:= #[] }
def Rm(P:Program):List Deferred ->List Ao ->(List Ao ->Prop) ->Prop
 | [],A,K=>K A
 |d::ds,A,K=>(∃D A',d=aI D/\A.Perm (Vj D::A')/\Rm P ds A' K)\/
   (∃(fv:Fn) (cap:Array Value) (f:FuncId) (args:List Value) (ρ:Type) (pre R:List Ao) (post:ρ ->List Ao),d.target= .fn fv cap/\(∀w,(invoke d.target d.args).run P w= .ok (.enter f args.toArray) w)/\CtD P f args pre post/\A.Perm (pre++R)/\ ∀r,Rm P ds (post r++R) K)
theorem Ic{fn:Func}{n:Nat}{a:Act}{L:List (Nat × Value)}{w0:World}{R:Ending ->World ->Prop}(hfr:Fr n L a): ∀(ds:List Deferred) (A:List Ao) (K:List Ao ->Prop) (w:World),Rm P ds A K ->sat w A ->Kept w0 w ->
  (∀B w',K B ->sat w' B ->Kept w0 w' -> ∃v,(results fn a.tmps).run P w'= .ok v w'/\R (.returned v) w') ->LeavesInM (fz none) 0 P fn a.tmps R ds .returning w
 | [],A,K,w,h,hs,hk,hR=>hR A w h hs hk
 |d::ds,A,K,w,h,hs,hk,hR=>by
  refine⟨by simp,?_⟩
  rcases h with ⟨D,A',rfl,hp,hr⟩|⟨fv,cap,f,args,ρ,pre,X,post,ht,hi,hc,hp,hr⟩
  ·have h2:=AS hp hs
   have hD:=Cn h2
   refine .inl ⟨D,_,rfl,run_takeDeferred hD,?_⟩
   refine Ic hfr ds A' K _ hr ?_ (hk.trans ⟨rfl,rfl,rfl,by simp [World.putObj],by simp [World.putObj]⟩) hR
   exact EB (Fq (o':=.deferred none) (by have:=(Array.getElem?_eq_some_iff.1 hD).1;simp [World.putObj,this]) (fun c hc x hx=>by simp [World.putObj,Ne.symm hc];exact hx) h2)
  ·refine .inr ⟨KR,fv,cap,f,args.toArray,ht,hi w,fun _ _=>trivial,?_⟩
   refine(hc X w .returning (AS hp hs)).mono ?_
   rintro e u' w' ⟨rfl,r,v,rfl,hs',hk'⟩
   exact Ic hfr ds _ K w' (hr r) hs' (hk.trans hk') hR
def End(P:Program)(fn:Func)(n:Nat)(w0:World)(F:List Ao){ρ:Type}(val:ρ ->Value)(post:ρ ->List Ao)(Q:Act ->World ->Prop):Prop:=
 ∀m L A,m.r=none ->Rm P m.ds A (fun B=> ∃r,Rs P fn n L B (val r)/\Sub B (post r++F)) ->Ps m Q w0 n L A
def cE(P:Program)(fn:Func)(R:Ending ->World ->Prop):Exit ->Act ->World ->Prop
 | .normal,a,w| .ret,a,w=>LeavesInM (fz none) 0 P fn a.tmps R a.defers .returning w
 |_,_,_=>False
def I4(Q:Exit ->Act ->World ->Prop):Prop:= ∀d v c a w,Q (.panic c) (a.put d v) w ->Q (.panic c) a w
theorem AY{f:FuncId}{fn:Func}{c:Code}{args:List Value}{pre:List Ao}{ρ:Type}{val:ρ ->Value}{post:ρ ->List Ao}{n:Nat}(hf:P.funcs[f]? =some fn)(hb:fn.body=some c)(hn:fn.ntmps=n)(hle':Nat.ble args.length n=true)
  (h: ∀(F:List Ao) (w0:World) (Q:Exit ->Act ->World ->Prop),End P fn n w0 F val post (Q .ret) ->End P fn n w0 F val post (Q .normal) ->I4 Q ->WC P cu Q w0 n c (YJ 0 args) (pre++F)):Ct P f args pre val post:=by
 have hle:args.length<=n:=Nat.le_of_ble_eq_true hle'
 refine⟨fun F w0 hs=>?_⟩
 refine(callsIn_wide (n:=0)).1 ?_
 have hz:Fence.wide=fz none:=rfl
 rw [hz]
 obtain⟨R,hRd⟩: ∃R:Ending ->World ->Prop,R=fun e w'=> ∃r,e= .returned (val r)/\sat w' (post r++F)/\Kept w0 w':=⟨_,rfl⟩
 rw [<-hRd]
 refine callsIn_of_wp_marks hf hb trivial ?_ rfl
 have hend: ∀m L A,m.r=none ->Rm P m.ds A (fun B=> ∃r,Rs P fn n L B (val r)/\Sub B (post r++F)) ->Ps m (fun a w=>LeavesInM (fz none) 0 P fn a.tmps R a.defers .returning w) w0 n L A:=by
  intro m L A _ hdr a w hd hfr hs' hk
  show LeavesInM _ _ _ _ _ _ a.defers _ _
  rw [hd]
  refine Ic hfr m.ds A _ w hdr hs' hk ?_
  rintro B w' ⟨r,hr,hB⟩ hsB hkB
  exact⟨_,hr a w' hfr hsB,by rw [hRd];exact⟨r,rfl,hB.sat hsB,hkB⟩⟩
 refine wpIn_mono (Q:=cE P fn R) ?_ ?_
 ·refine h F w0 (cE P fn R) hend hend (fun d v c a w hq=>hq) _ _ rfl ⟨?_,fun x v hx=>?_⟩ hs (.refl _)
  ·simp [hn];omega
  ·have:=O5 args 0 x v hx
   have hlt:=(List.getElem?_eq_some_iff.1 this.2).1
   simp only [Nat.sub_zero] at hlt
   rw [Array.getElem?_append_left (by simpa using hlt)]
   simpa using this.2
 ·intro e a w hq
  cases e <;>first|exact hq|exact hq.elim
def DF(P:Program)(f:FuncId):Bool:=match P.funcs[f]? with|some fn=> !(fn.name== "runtime.NumGoroutine") && fn.body.isSome|none=>false
theorem FI{f:FuncId}(h:DF P f=true)(args:Array Value)(w:World):(callFunc f args).run P w= .ok (.enter f args) w:=by
 unfold DF at h
 split at h
 ·rename_i fn hfn
  simp only [Bool.and_eq_true,Bool.not_eq_true',beq_eq_false_iff_ne,ne_eq] at h
  have hb:fn.body≠none:=by intro hbb;rw [hbb] at h;simp at h
  simp [callFunc,hfn,h.1,hb]
 ·cases h
variable {n : Nat} {L : List (Nat × Value)} {A : List Ao} {d : Option Tmp} {ty : TypeId} {DJ : String} {af : Array Edge} {g : Option (Nat × Bool)}
theorem Io{o:Oper}{f:FuncId}{args:List Value}{pre F:List Ao}{ρ:Type}{val:ρ ->Value}{post:ρ ->List Ao}
  (hr: ∀a w,Fr n L a ->sat w A ->(execOp a.eval o).run P w= .ok (.enter f args.toArray) w) (hs:Ct P f args pre val post) (hg:Gv A pre F):
  Ac P n o L A (fun v A'=> ∃r,v=val r/\A'=post r++F):=by
 intro r0 a w K Q hf hsat hk
 refine⟨fun _ _=>trivial,?_⟩
 rw [Oper.semAt_plain _ _ _ (SR (hr a w hf hsat)),hr a w hf hsat]
 refine⟨KR,R7 ((hs.out F w (AS hg hsat)).mono ?_)⟩
 rintro e w' ⟨r,rfl,hs',hk'⟩
 exact hk _ _ _ ⟨r,rfl,rfl⟩ hs' hk'
theorem AE{f:FuncId}{xs:Array Operand}{ts:Array TypeId}{args:List Value}{pre F:List Ao}{ρ:Type}{val:ρ ->Value}{post:ρ ->List Ao}(hc:DF P f=true)(ha:Xi L xs.toList=some args)(hg:Gv A pre F:=by repeat (first|with_reducible exact Gv.nil|(with_reducible apply Gv.cons;· (repeat (first|with_reducible exact Ext.here|with_reducible apply Ext.there)))))(hs:Ct P f args pre val post):
  Ac P n ⟨d,.call ⟨.value (.func f),xs,ts⟩,ty,DJ,af,g⟩ L A (fun v A'=> ∃r,v=val r/\A'=post r++F):=
 Io (fun a w hf _=>by
  have e:=hf.evals ha
  have e':xs.map a.eval=args.toArray:=by apply Array.ext';simp [e]
  simp [execOp,resolve,Act.eval,Deferred.ofValue,invoke,e',FI hc]) hs hg
theorem Yr{f:FuncId}{x:Operand}{xs:Array Operand}{ts:Array TypeId}{args caps all:List Value}{first capt:Array Value}{pre F:List Ao}{ρ:Type}{val:ρ ->Value}{post:ρ ->List Ao}(hx:ev L x=some (.func (.func f) first capt))(hc:DF P f=true)(ha:Xi L xs.toList=some args)
  (hfi:first= #[]) (hca:capt=caps.toArray) (hall:args++caps=all) (hg:Gv A pre F:=by repeat (first|with_reducible exact Gv.nil|(with_reducible apply Gv.cons;· (repeat (first|with_reducible exact Ext.here|with_reducible apply Ext.there))))) (hs:Ct P f all pre val post):Ac P n ⟨d,.call ⟨.value x,xs,ts⟩,ty,DJ,af,g⟩ L A (fun v A'=> ∃r,v=val r/\A'=post r++F):=
 Io (fun a w hf _=>by
  have e:=hf.evals ha
  have e':xs.map a.eval=args.toArray:=by apply Array.ext';simp [e]
  subst hfi;subst hca;subst hall
  simp [execOp,resolve,hf.eval hx,Deferred.ofValue,invoke,e',FI hc]) hs hg
theorem Ct.frame{f:FuncId}{args:List Value}{pre:List Ao}{ρ:Type}{val:ρ ->Value}{post:ρ ->List Ao}(h:Ct P f args pre val post)(R:List Ao):Ct P f args (pre++R) val (fun r=>post r++R):=by
 refine⟨fun F w hs=>?_⟩
 refine(h.out (R++F) w (by simpa using hs)).mono ?_
 rintro e w' ⟨r,he,hs',hk⟩
 exact⟨r,he,by simpa using hs',hk⟩
theorem Ct.calls{f:FuncId}{args:List Value}{pre:List Ao}{ρ:Type}{val:ρ ->Value}{post:ρ ->List Ao}(h:Ct P f args pre val post)(w:World)(hs:sat w pre):
  Calls P f args.toArray w (fun e w'=> ∃r,e= .returned (val r)/\sat w' (post r)/\Kept w w'):=by
 refine(h.out [] w (by simpa using hs)).mono ?_
 rintro e w' ⟨r,he,hs',hk⟩
 exact⟨r,he,by simpa using hs',hk⟩
end
end Go.SL
/-
 What '==' and '!=' tell:of a pointer,a function value,a slice,a map against nil;of bools;of strings. (Conditions:none;generic over the program.)
-/
namespace Go.SL
open Go.RowKit
section
variable {P : Program} {n : Nat} {L : List (Nat × Value)} {A : List Ao} {d : Option Tmp} {ty : TypeId} {DJ : String} {af : Array Edge} {g : Option (Nat × Bool)} {t t' : TypeId} {x y : Operand}
theorem KT{t:TypeId}{u v:Value} :Op.equal t u v=Op.equalIn (9999+1) t u v:=rfl
theorem Fo{p:Option Addr}{e:TypeId}(hx:ev L x=some (.pointer p))(hy:ev L y=some (.pointer none))(hu:P.underlying t=some (.pointer e)):Rd P n ⟨d,.binOp .eql t x y t',ty,DJ,af,g⟩ L A (.bool p.isNone):=
 OW hx hy (fun w=>by cases p <;>rfl) fun w=>by
  have:binOp .eql t (.pointer p) (.pointer none)=(do pure (.bool (<-Op.equal t (.pointer p) (.pointer none)))):=rfl
  rw [this,KT,Op.equalIn];simp only [Sem.run_bind,BJ hu,Result.andThen_ok,Sem.run_pure];cases p <;>rfl
theorem NW{p:Option Addr}{e:TypeId}(hx:ev L x=some (.pointer p))(hy:ev L y=some (.pointer none))(hu:P.underlying t=some (.pointer e)):Rd P n ⟨d,.binOp .neq t x y t',ty,DJ,af,g⟩ L A (.bool p.isSome):=
 cK hx hy (fun w=>by cases p <;>rfl) fun w=>by
  have:binOp .neq t (.pointer p) (.pointer none)=(do pure (.bool (!(<-Op.equal t (.pointer p) (.pointer none))))):=rfl
  rw [this,KT,Op.equalIn];simp only [Sem.run_bind,BJ hu,Result.andThen_ok,Sem.run_pure];cases p <;>rfl
theorem eX{f:Fn}{us vs:Array Value}{ps rs:Array TypeId}{va:Bool}(hx:ev L x=some (.func f us vs))(hy:ev L y=some .nilFunc)(hu:P.underlying t=some (.func ps rs va)):Rd P n ⟨d,.binOp .eql t x y t',ty,DJ,af,g⟩ L A (.bool false):=
 OW hx hy (fun w=>rfl) fun w=>by
  have:binOp .eql t (.func f us vs) .nilFunc=(do pure (.bool (<-Op.equal t (.func f us vs) .nilFunc))):=rfl
  rw [this,KT,Op.equalIn];simp only [Sem.run_bind,BJ hu,Result.andThen_ok,Sem.run_pure]
theorem bH{ps rs:Array TypeId}{va:Bool}(hx:ev L x=some .nilFunc)(hy:ev L y=some .nilFunc)(hu:P.underlying t=some (.func ps rs va)):Rd P n ⟨d,.binOp .eql t x y t',ty,DJ,af,g⟩ L A (.bool true):=
 OW hx hy (fun w=>rfl) fun w=>by
  have:binOp .eql t .nilFunc .nilFunc=(do pure (.bool (<-Op.equal t .nilFunc .nilFunc))):=rfl
  rw [this,KT,Op.equalIn];simp only [Sem.run_bind,BJ hu,Result.andThen_ok,Sem.run_pure]
theorem eS{a:Option Addr}{k c:Nat}{e:TypeId}(hx:ev L x=some (.slice a k c))(hy:ev L y=some (.slice none 0 0))(hu:P.underlying t=some (.slice e)):Rd P n ⟨d,.binOp .eql t x y t',ty,DJ,af,g⟩ L A (.bool a.isNone):=
 OW hx hy (fun w=>rfl) fun w=>by
  have:binOp .eql t (.slice a k c) (.slice none 0 0)=(do pure (.bool (<-Op.equal t (.slice a k c) (.slice none 0 0)))):=rfl
  rw [this,KT,Op.equalIn];simp only [Sem.run_bind,BJ hu,Result.andThen_ok,Sem.run_pure];cases a <;>rfl
theorem Yi{p q:ByteArray}(hx:ev L x=some (.string p))(hy:ev L y=some (.string q)):Rd P n ⟨d,.binOp .eql t x y t',ty,DJ,af,g⟩ L A (.bool (p.toList==q.toList)):=
 OW hx hy (fun w=>rfl) fun w=>by simp [binOp,Op.stringOp]
end
theorem An{P:Program}{n:Nat}{L:List (Nat × Value)}{A:List Ao}{d:Option Tmp}{ty:TypeId}{DJ:String}{af:Array Edge}{g:Option (Nat × Bool)}{t t':TypeId}{x y:Operand}{k:IntKind}{i j:Nat}(hx:ev L x=some (.int k (i:Int)))(hy:ev L y=some (.int k (j:Int))):
  Rd P n ⟨d,.binOp .lss t x y t',ty,DJ,af,g⟩ L A (.bool (decide (i<j))):=by
 have:=Bt (P:=P) (n:=n) (A:=A) (d:=d) (ty:=ty) (DJ:=DJ) (af:=af) (g:=g) (t:=t) (t':=t') hx hy
 rwa [show decide ((i:Int)<(j:Int))=decide (i<j) by by_cases h:i<j <;>simp [h]] at this
theorem Wk.bool{L:List (Nat × Value)}{x:Nat}{b c:Bool}(h:Dj L x=some (.bool b))(e:b=c):Wk L ((x,.bool c)::L):=Wk.cons (by rw [h,e]) Wk.refl
theorem Ae{P:Program}{m:Md}{ops:Array Oper}{Q:Exit ->Act ->World ->Prop}{w0:World}{n:Nat}{rest:List Oper}{L:List (Nat × Value)}{A:List Ao}{b:Bool}(x:Nat)(h:Dj L x=some (.bool b))
  (h1:b=true ->WL P m ops Q w0 n rest ((x,.bool true)::L) A) (h2:b=false ->WL P m ops Q w0 n rest ((x,.bool false)::L) A):WL P m ops Q w0 n rest L A:=by
 cases hb:b with
 |true=>exact cG (Wk.bool h hb) Sub.refl (h1 hb)
 |false=>exact cG (Wk.bool h hb) Sub.refl (h2 hb)
theorem Be{P:Program}{m:Md}{ops:Array Oper}{Q:Exit ->Act ->World ->Prop}{w0:World}{n:Nat}{S:List Ao}{J:Nat ->Nat}{fuel:Nat}{is:List Nat}{L:List (Nat × Value)}{A:List Ao}{b:Bool}(x:Nat)(h:Dj L x=some (.bool b))
  (h1:b=true ->WJ P m ops Q w0 n S J fuel is ((x,.bool true)::L) A) (h2:b=false ->WJ P m ops Q w0 n S J fuel is ((x,.bool false)::L) A):WJ P m ops Q w0 n S J fuel is L A:=by
 cases hb:b with
 |true=>exact cH (Wk.bool h hb) Sub.refl (h1 hb)
 |false=>exact cH (Wk.bool h hb) Sub.refl (h2 hb)
theorem Sub.tail{A B:List Ao}{X:Ao}(h:Sub A B):Sub (X::A) B:=let ⟨R,p⟩:=h;⟨X::R,(p.cons X).trans List.perm_middle.symm⟩
theorem Vy(a b:Nat):((a:Int).tdiv (b:Int))=((a / b:Nat):Int):=by rw [Int.tdiv_eq_ediv_of_nonneg (by omega)];rfl
theorem JV{x r:Int}(h:x=r)(lo: -9223372036854775808<=x)(hi:x<=9223372036854775807):IntKind.i64.wrap x=r:=by
 subst h
 rw [IntKind.wrap_i64]
 omega
theorem en{x r:Int}(h:x=r)(lo: -9223372036854775808<=r)(hi:r<=9223372036854775807):IntKind.i64.wrap x=r:=JV h (h ▸ lo) (h ▸ hi)
end Go.SL
/-
 Maps whose keys are whole numbers,as the logic sees them:what stands under which key. Look-up,store,delete,the two halves of an assignment. (Conditions:none;generic over the program.)
-/
namespace Go.SL
open Go.RowKit

def ky(e:MapEntry):Int:=match e.key with| .int _ k=>k|_=>0
def DJ(k:Int):List MapEntry ->Option Nat
 | []=>none
 |e::r=>if ky e=k then some 0 else (DJ k r).map (· +1)
def gt(k:Int)(l:List MapEntry):Option Value:=(DJ k l).bind fun j=>l[j]?.map (·.val)
def okk(l:List MapEntry):Prop:= ∀e∈l,e.key= .int .i64 (ky e)
structure MW (l:List MapEntry) (ck:Nat) (φ:Int ->Option Value):Prop where
 keys:okk l
 nd:(l.map ky).Nodup
 born: ∀e∈l,e.born<ck
 bnd:(l.map (·.born)).Nodup
 get: ∀k,gt k l=φ k
section
variable {P : Program}
theorem Dp{w:World}{m:Nat}{es:Array MapEntry}{ck:Nat}(h:w.heap[m]? =some (.map es ck)):(getObj m).run P w= .ok (.map es ck) w:=by
 simp [getObj,Sem.run,h]
theorem EY{w:World}{m:Nat}{es es':Array MapEntry}{ck ck':Nat}(h:w.heap[m]? =some (.map es ck)):(setObj m (.map es' ck')).run P w= .ok () { w with heap:=w.heap.setIfInBounds m (.map es' ck') } :=by
 simp [setObj,Sem.run,h]
theorem GP{w:World}{m:Nat}{o o':Obj}{R:List Ao}(hs:sat w (pt m o::R)):sat { w with heap:=w.heap.setIfInBounds m o' } (pt m o'::R):=by
 have hm:=Cn hs
 have hlt:=(Array.getElem?_eq_some_iff.1 hm).1
 refine Fq (by simp [hlt]) (fun c hc x hx=>?_) hs
 simp [Ne.symm hc];exact hx
theorem FN{w:World}{m:Nat}{o:Obj} :Kept w { w with heap:=w.heap.setIfInBounds m o } :=⟨rfl,rfl,rfl,by simp,Nat.le_refl _⟩
theorem Jd{α:Type}{f:α ->α} : ∀ {l:List α} {j:Nat} {e:α},l[j]? =some e ->l.modify j f=l.set j (f e)
 | [],j,e,h=>by simp at h
 |x::r,0,e,h=>by simp at h;subst h;simp
 |x::r,j+1,e,h=>by simp at h;simp [Jd h]
variable {n : Nat} {L : List (Nat × Value)} {A : List Ao} {d : Option Tmp} {ty : TypeId} {pos' : String} {af : Array Edge} {g : Option (Nat × Bool)}
end
end Go.SL
/-
 append,clear,a literal of a struct or an array,a part of a struct. (Conditions:none;generic over the program.)
-/
namespace Go.SL
open Go.RowKit

def cJ(P:Program)(A:List Ao)(e m:Nat)(x:Value)(news:List Value):Prop:=
 news.length=m*e/\(∀w,(Builtin.lenOf x).run P w= .ok m w)/\ ∀w,sat w A ->(Builtin.firstCells e m x).run P w= .ok news.toArray w
section
variable {P : Program}
theorem Sz{A:List Ao}{b i e m c:Nat}{T:TypeId}{xs news:List Value}(hA:Has A (cl b T xs))(hl:i+m*e<=xs.length)(hn:(xs.drop i).take (m*e)=news):cJ P A e m (.slice (some ⟨b,i,none⟩) m c) news:=by
 refine⟨by rw [<-hn];simp;omega,fun w=>rfl,fun w hs=>?_⟩
 have h:=HC (P:=P) (i:=i) (hA.sat hs) (m*e) 0 #[] (by simpa using hl)
 simp only [Builtin.firstCells,loadCells,h]
 simp [hn]
theorem Pl{α:Type}{A:List Ao}{v:Value}{e:Nat}{f:α ->List Value}{l:List α}{ao:Option Addr}{cap:Nat}(h:Sv A v e f l ao cap):cJ P A e l.length v (l.flatMap f):=by
 have hlen: ∀l:List α,(∀x∈l,(f x).length=e) ->(l.flatMap f).length=l.length*e:=by
  intro l
  induction l with
  |nil=>simp
  |cons x r ih=>intro hx;rw [List.flatMap_cons,List.length_append,hx x (by simp),ih (fun y hy=>hx y (by simp [hy]))];simp [Nat.add_mul,Nat.add_comm]
 have hget: ∀(l:List α),(∀x∈l,(f x).length=e) -> ∀(q:Nat) (u:Value),(l.flatMap f)[q]? =some u -> ∃i x j,l[i]? =some x/\(f x)[j]? =some u/\q=i*e+j:=by
  intro l
  induction l with
  |nil=>intro _ q u h;simp at h
  |cons x r ih=>
   intro hx q u hq
   rw [List.flatMap_cons,List.getElem?_append] at hq
   split at hq
   ·exact⟨0,x,q,rfl,hq,by simp⟩
   ·rw [hx x (by simp)] at*
    obtain⟨i,y,j,h1,h2,h3⟩:=ih (fun y hy=>hx y (by simp [hy])) _ u hq
    exact⟨i+1,y,j,by simpa using h1,h2,by rw [Nat.add_mul];omega⟩
 refine⟨hlen l h.len,fun w=>by rw [h.val];rfl,fun w hs=>?_⟩
 rw [h.val]
 by_cases hl:l= []
 ·subst hl
  cases ao with
  |none=>simp [Builtin.firstCells]
  |some p=>simp [Builtin.firstCells,loadCells,loadCellsFrom]
 ·obtain⟨b,o,rfl⟩:=h.adr hl
  refine run_firstCells_some w e l.length _ _ _ _ (hlen l h.len) fun q u hq=>?_
  obtain⟨i,x,j,h1,h2,rfl⟩:=hget l h.len q u hq
  rw [EL]
  exact h.cell w hs i x h1 j u h2
theorem Mg{A:List Ao}{α:Type}{t t' ty et:TypeId}{ti:TypeInfo}{z:Value}{D:TypeDesc}{e by_:Nat}(ht:P.underlying t=some (.slice et))(ht':P.underlying t'=some D)(hD: ∀k,D≠ .int k)(hi:P.info? et=some ti)(hz:ti.zero=some z)(he:ti.size=e)(hb:ti.bytes=by_)
    (hzc:z.cells.size=e) {a:Option Nat} {cap:Nat} {f:α ->List Value} {l l2:List α} {x:Value} {R:List Ao} (hf: ∀x,(f x).length=e) (hsrc:cJ P A e l2.length x (l2.flatMap f)) (hE:Ext A (Aa a cap e et f l) R)
    (h1: ∀u∈l2,∀v∈f u,v.oneCell'=true) (hfit:(l.length+l2.length)*by_<=140737488355328) (hml:l.length+l2.length<=maxLen) {w:World} (hs:sat w A):
    ∃a' cap' w',(Builtin.append_ #[t,t'] ty #[sl a l.length cap,x]).run P w= .ok (sl a' (l++l2).length cap') w'/\sat w' (Aa a' cap' e et f (l++l2)::R)/\Kept w w'/\(a'=none ->l++l2= []):=by
  subst he;subst hb
  have hs0:=AS hE hs
  have hlenf:(l.flatMap f).length=l.length*ti.size:=Ec hf l
  have hlen2:(l2.flatMap f).length=l2.length*ti.size:=Ec hf l2
  -- what stands in the Lo array
  by_cases hroom:l.length+l2.length<=cap
  · --there is room
    cases a with
    |none=>
      obtain⟨hc,hl⟩:=FX (A:=Aa none cap ti.size et f l::R) Has.here hs0
      have hl2:l2= []:=by
       have:l2.length=0:=by omega
       exact List.eq_nil_of_length_eq_zero this
      subst hc;subst hl;subst hl2
      refine⟨none,0,w,?_,by simpa using hs0,.refl _,fun _=>rfl⟩
      have hl0:=hsrc.2.1 w
      have hf0:=hsrc.2.2 w hs
      simp only [List.length_nil,List.flatMap_nil] at hl0 hf0
      simp only [Builtin.append_,sl,List.getElem?_toArray,List.getElem?_cons_zero,List.getElem?_cons_succ,Sem.run_bind,BJ ht,Result.andThen_ok,CY (show sz P et=some ti.size by simp [sz,hi]),BJ ht',Sem.run_pure]
      cases D <;>first|exact absurd rfl (hD _)|simp [hl0,hf0]
    |some g=>
      unfold Aa at hs0
      obtain⟨cur,h2⟩:=E3.1 hs0
      obtain⟨⟨hfe,hcl,hle,hm,htk⟩,h3⟩:=Co.1 h2
      have hmul:l.length*ti.size+l2.length*ti.size<=cap*ti.size:=by rw [<-Nat.add_mul];exact Nat.mul_le_mul_right _ hroom
      obtain⟨w',hr,hh,ho,hk⟩:=FG (P:=P) (i:=l.length*ti.size) (l2.flatMap f) 0 cur w (Cn h3) (by rw [hlen2,hcl];omega) (fun v hv=>by obtain⟨u,hu,hv⟩:=List.mem_flatMap.1 hv;exact h1 u hu v hv)
      refine⟨some g,cap,w',?_,?_,hk,fun h=>by cases h⟩
      · have hl0:=hsrc.2.1 w
        have hf0:=hsrc.2.2 w hs
        simp only [Builtin.append_,sl,List.getElem?_toArray,List.getElem?_cons_zero,List.getElem?_cons_succ,Sem.run_bind,BJ ht,Result.andThen_ok,CY (show sz P et=some ti.size by simp [sz,hi]),BJ ht',Sem.run_pure]
        cases D <;>first|exact absurd rfl (hD _)|simp [hl0,hf0,hroom,EL,hr,List.length_append]
      · unfold Aa
        refine E3.2 ⟨cur.take (l.length*ti.size)++l2.flatMap f++cur.drop (l.length*ti.size+(l2.flatMap f).length),Co.2 ⟨⟨hfe,?_,by simpa using hroom,hm,?_⟩,?_⟩⟩
        · simp only [List.length_append,List.length_take,List.length_drop,hlen2,hcl];omega
        · rw [List.length_append,Nat.add_mul,htk,List.flatMap_append]
          exact List.take_left' (by rw [List.length_append,hlenf,hlen2])
        · refine Fq (o:=.cells cur.toArray et (0,0)) ?_ (fun c hc x hx=>by rw [ho c hc];exact hx) h3
          simpa using hh
  · --a new array
    have hgrow:cap<l.length+l2.length:=by omega
    have hn: ¬(l.length+l2.length<=cap):=hroom
    have h63': ¬(9223372036854775807<((l.length:Int)+(l2.length:Int))):=by simp only [maxLen] at hml;omega
    have h48': ¬(281474976710656<Builtin.nextslicecap (l.length+l2.length) cap*ti.bytes):=by have:=growslice_fits hgrow hfit;omega
    have hsd:sat w.drew A:=HW (w:=w) rfl hs
    have hl0:=hsrc.2.1
    have hf0:=hsrc.2.2 w.drew hsd
    have hold:(Builtin.firstCells ti.size l.length (sl a l.length cap)).run P w.drew= .ok (l.flatMap f).toArray w.drew:=by
      cases a with
      |none=>have:=(FX (A:=Aa none cap ti.size et f l::R) Has.here hs0).2;subst this;simp [sl,Builtin.firstCells]
      |some g=>exact(Pl (Sy (A:=A) ⟨R,hE⟩ hf (fun h=>by cases h) (MB (A:=A) ⟨R,hE⟩ hsd))).2.2 _ hsd
    have hge:=grownCap_ge w (l.length+l2.length) cap et
    have hcm:=grownCap_le_maxLen w (l.length+l2.length) cap et hml
    refine⟨some w.heap.size,grownCap w (l.length+l2.length) cap et,w.drew.alloc (.cells ((l.flatMap f).toArray++(l2.flatMap f).toArray++Builtin.zeroCells z.cells (grownCap w (l.length+l2.length) cap et -(l.length+l2.length))) et),?_,?_,⟨rfl,rfl,rfl,by simp,Nat.le_succ _⟩,fun h=>by cases h⟩
    · have hold': ∀w',w'=w.drew ->(Builtin.firstCells ti.size l.length (.slice (a.map fun g=>⟨g,0,none⟩) l.length cap)).run P w'= .ok (l.flatMap f).toArray w':=fun w' e=>by rw [e];exact hold
      simp only [sl,Builtin.append_,List.getElem?_toArray,List.getElem?_cons_zero,List.getElem?_cons_succ,Sem.run_bind,BJ ht,Result.andThen_ok,CY (show sz P et=some ti.size by simp [sz,hi]),BJ ht',Sem.run_pure]
      cases D <;>first
        |exact absurd rfl (hD _)
        |(simp [hl0,hn,h63',h48',typeInfo,zeroValue,hi,hz,Question.forced,hold',hf0,newRow,grownCap];congr 2;apply Array.ext';simp [List.append_assoc])
    · have hs1:=EB hs0
      have hs2:sat w.drew R:=HW (w:=w) rfl hs1
      have:=GR (w:=w.drew) (w':=w.drew.alloc (.cells ((l.flatMap f).toArray++(l2.flatMap f).toArray++Builtin.zeroCells z.cells (grownCap w (l.length+l2.length) cap et -(l.length+l2.length))) et)) rfl hs2
      unfold Aa
      refine E3.2 ⟨l.flatMap f++l2.flatMap f++(Builtin.zeroCells z.cells (grownCap w (l.length+l2.length) cap et -(l.length+l2.length))).toList,Co.2 ⟨⟨hf,?_,by simpa using hge,hcm,?_⟩,?_⟩⟩
      · have hzl: ∀k,(Builtin.zeroCells z.cells k).toList.length=k*ti.size:=fun k=>by rw [Array.length_toList,size_zeroCells,hzc]
        rw [List.length_append,List.length_append,hlenf,hlen2,hzl,<-Nat.add_mul,<-Nat.add_mul]
        congr 1;omega
      · rw [List.length_append,Nat.add_mul,List.flatMap_append]
        exact List.take_left' (by rw [List.length_append,hlenf,hlen2])
      · refine Hl (fun h hp=>?_) this
        have e1:(l.flatMap f++l2.flatMap f++(Builtin.zeroCells z.cells (grownCap w (l.length+l2.length) cap et -(l.length+l2.length))).toList).toArray=(l.flatMap f).toArray++(l2.flatMap f).toArray++Builtin.zeroCells z.cells (grownCap w (l.length+l2.length) cap et -(l.length+l2.length)):=by
          apply Array.ext';simp
        rw [e1];exact hp
variable {n : Nat} {L : List (Nat × Value)} {A : List Ao} {d : Option Tmp} {ty : TypeId} {pos' : String} {af : Array Edge} {g : Option (Nat × Bool)}
def el(P:Program)(et:TypeId):Option (Nat × Nat):=(P.info? et).bind fun i=>i.zero.bind fun z=>if z.cells.size=i.size then some (i.size,i.bytes) else none
theorem OZ{α:Type}{t t' et:TypeId}{D:TypeDesc}{e by_:Nat}{x y:Operand}{a:Option Nat}{cap len:Nat}{f:α ->List Value}{l:List α}{v:Value}{R:List Ao}(l2:List α)(hx:ev L x=some (sl a len cap))(hy:ev L y=some v)(ht:P.underlying t=some (.slice et))(ht':P.underlying t'=some D)(hD:(match D with| .int _=>false|_=>true)=true)
  (hel:el P et=some (e,by_)) (hf: ∀x,(f x).length=e) (hsrc:cJ P A e l2.length v (l2.flatMap f)) (hE:Ext A (Aa a cap e et f l) R) (hlen:len=l.length) (h1: ∀u∈l2,∀v∈f u,v.oneCell'=true) (hfit:(l.length+l2.length)*by_<=140737488355328) (hml:l.length+l2.length<=maxLen):
  Ac P n ⟨d,.call ⟨.builtin .append, #[x,y], #[t,t']⟩,ty,pos',af,g⟩ L A (fun r A'=> ∃a' cap',r=sl a' (l++l2).length cap'/\A'=Aa a' cap' e et f (l++l2)::R):=
 Ew fun ac w hfr hs=>by
  unfold el at hel
  cases hi:P.info? et with
  |none=>rw [hi] at hel;simp at hel
  |some ti=>
   rw [hi] at hel
   simp only [Option.bind_some] at hel
   cases hz:ti.zero with
   |none=>rw [hz] at hel;simp at hel
   |some z=>
    rw [hz] at hel
    simp only [Option.bind_some] at hel
    split at hel
    ·rename_i hzc
     simp only [Option.some.injEq,Prod.mk.injEq] at hel
     subst hlen
     obtain⟨a',cap',w',hr,hs',hk,_⟩:=Mg (P:=P) (t:=t) (t':=t') (ty:=ty) ht ht' (fun k hk=>by subst hk;simp at hD) hi hz hel.1 hel.2 (by rw [<-hel.1];exact hzc) hf hsrc hE h1 hfit hml hs
     exact⟨_,w',_,.inl (by simp [execOp,resolve,invoke,Go.builtin,hfr.eval hx,hfr.eval hy,hr]),⟨a',cap',rfl,rfl⟩,hs',hk⟩
    ·cases hel
end
end Go.SL
/-
 A literal of a struct or an array,a part of one,clear of a slice's end,a slice's literal. (Conditions:none;generic over the program.)
-/
namespace Go.SL
open Go.RowKit

def BD(off:Nat):List Value ->List Value ->List Value
 | [],cs=>cs
 |v::r,cs=>BD (off+1) r (cs.set off v)
def Er(ps:List (Nat × Nat)):List (Nat × Value) ->List Value ->Option (List Value)
 | [],cs=>some cs
 |(i,v)::r,cs=>match ps[i]? with
  |none=>none
  |some (off,k)=>bif Nat.beq v.cells.size k && Nat.ble (off+k) cs.length then Er ps r (BD off v.cells.toList cs) else none
def SG(P:Program)(t:TypeId):Option (List Value × List (Nat × Nat)):=
 (zr P t).bind fun zs=>match P.underlying t with
  |some (.struct fs)=>(fs.toList.mapM fun f=>(sz P f.type).map fun k=>(f.offset,k)).map fun ps=>(zs,ps)
  |some (.array len e)=>(sz P e).map fun k=>(zs,(List.range len).map fun i=>(i*k,k))
  |_=>none
theorem Ma(off:Nat): ∀(vs:List Value) (j:Nat) (cs:Array Value),((vs.zipIdx j).foldl (fun cs (x:Value × Nat)=>cs.setIfInBounds (off+x.2) x.1) cs).toList=BD (off+j) vs cs.toList
 | [],j,cs=>rfl
 |v::r,j,cs=>by
  simp only [List.zipIdx_cons,List.foldl_cons,BD]
  rw [Ma off r (j+1)]
  simp [Nat.add_assoc]
theorem M6{place:Nat ->Option (Nat × Nat)}{ps:List (Nat × Nat)}(hp: ∀i x,ps[i]? =some x ->place i=some x): ∀(l:List (Nat × Value)) (cs:Array Value) (xs:List Value),Er ps l cs.toList=some xs ->Instr.fill place cs l=some xs.toArray
 | [],cs,xs,h=>by simp [Er] at h;simp [Instr.fill,<-h]
 |(i,v)::r,cs,xs,h=>by
  unfold Er at h
  split at h
  ·cases h
  ·rename_i off k hk
   rw [Bool.cond_eq_ite] at h
   split at h
   ·rename_i hc
    rw [Bool.and_eq_true] at hc
    have hc1:=Nat.eq_of_beq_eq_true hc.1
    have hc2:=Nat.le_of_ble_eq_true hc.2
    rw [Array.length_toList] at hc2
    unfold Instr.fill
    rw [hp i _ hk]
    simp only
    rw [if_neg (by simp only [Bool.or_eq_true,decide_eq_true_eq];intro h';rcases h' with h'|h' <;>omega)]
    have:=Ma off v.cells.toList 0 cs
    rw [Nat.add_zero] at this
    rw [<-this] at h
    have ih:=M6 hp r _ xs h
    rw [<-ih]
    congr 1
    rw [<-Array.foldl_toList]
    simp
   ·cases h
section
variable {P : Program} {n : Nat} {L : List (Nat × Value)} {A : List Ao} {d : Option Tmp} {ty : TypeId} {pos' : String} {af : Array Edge} {g : Option (Nat × Bool)}
theorem Lc{fs:List Field} : ∀ {ps:List (Nat × Nat)},(fs.mapM fun f=>(sz P f.type).map fun k=>(f.offset,k))=some ps -> ∀w,(fs.mapM fun f=>(do pure (f.offset,<-sizeOf f.type):Sem (Nat × Nat))).run P w= .ok ps w:=by
 induction fs with
 |nil=>intro ps h w;simp at h;subst h;simp
 |cons f r ih=>
  intro ps h w
  rw [List.mapM_cons] at h
  cases hz:sz P f.type with
  |none=>rw [hz] at h;simp at h
  |some k=>
   rw [hz] at h
   simp only [Option.map_some,Option.bind_eq_bind,Option.bind_some,Option.pure_def] at h
   cases hr:(r.mapM fun f=>(sz P f.type).map fun k=>(f.offset,k)) with
   |none=>rw [hr] at h;simp at h
   |some qs=>
    rw [hr] at h
    simp at h;subst h
    have:=ih hr w
    simp only [List.mapM_cons,Sem.run_bind,CY hz,Result.andThen_ok,Sem.run_pure,this]
def bj(L:List (Nat × Value)):List (Nat × Operand) ->Option (List (Nat × Value))
 | []=>some []
 |(i,x)::r=>match ev L x,bj L r with|some v,some vs=>some ((i,v)::vs)|_,_=>none
theorem Fr.evalp{a:Act}(h:Fr n L a): ∀ {xs:List (Nat × Operand)} {vs:List (Nat × Value)},bj L xs=some vs ->xs.map (fun (i,x)=>(i,a.eval x))=vs
 | [],vs,e=>by simp [bj] at e;simp [e]
 |(i,x)::r,vs,e=>by
  unfold bj at e
  split at e
  ·rename_i v us hx hr
   simp only [Option.some.injEq] at e
   rw [<-e,List.map_cons,Fr.evalp h hr]
   simp only [h.eval hx]
  ·cases e
theorem LQ{len k i:Nat}{x:Nat × Nat}(h:((List.range len).map fun i=>(i*k,k))[i]? =some x):some (i*k,k)=some x:=by
 rw [List.getElem?_map] at h
 by_cases hi:i<len
 ·rw [List.getElem?_range hi] at h;simpa using h
 ·rw [List.getElem?_eq_none (by simpa using hi)] at h;cases h
theorem Uk{t:TypeId}{zs xs:List Value}{ps:List (Nat × Nat)}{parts:List (Nat × Value)}(hp:SG P t=some (zs,ps))(hf:Er ps parts zs=some xs)(w:World):(Instr.build t parts.toArray).run P w= .ok (.agg xs.toArray) w:=by
 unfold SG at hp
 cases hz:zr P t with
 |none=>rw [hz] at hp;cases hp
 |some zs'=>
  rw [hz] at hp
  simp only [Option.bind_some] at hp
  obtain⟨z,hzc,hzr⟩:=Mf hz
  split at hp
  ·rename_i fs hu
   cases hm:(fs.toList.mapM fun f=>(sz P f.type).map fun k=>(f.offset,k)) with
   |none=>rw [hm] at hp;cases hp
   |some qs=>
    rw [hm] at hp
    simp only [Option.map_some,Option.some.injEq,Prod.mk.injEq] at hp
    obtain⟨rfl,rfl⟩:=hp
    have h1:=Lc (P:=P) hm w
    have h2:=M6 (place:=fun i=>qs.toArray[i]?) (ps:=qs) (fun i x h=>by simpa using h) parts z.cells xs (by rw [hzc];exact hf)
    have h3:(fs.mapM fun f=>(do pure (f.offset,<-sizeOf f.type):Sem (Nat × Nat))).run P w= .ok qs.toArray w:=by
     rw [Array.mapM_eq_mapM_toList]
     simp only [Sem.run_map,h1,Result.andThen_ok]
    simp only [Instr.build,Sem.run_bind,hzr,Result.andThen_ok,BJ hu,h3,h2,Sem.run_pure]
  ·rename_i len e hu
   cases hse:sz P e with
   |none=>rw [hse] at hp;cases hp
   |some k=>
    rw [hse] at hp
    simp only [Option.map_some,Option.some.injEq,Prod.mk.injEq] at hp
    obtain⟨rfl,rfl⟩:=hp
    have h2:=M6 (place:=fun i=>some (i*k,k)) (ps:=(List.range len).map fun i=>(i*k,k)) (fun i x h=>LQ h) parts z.cells xs (by rw [hzc];exact hf)
    simp only [Instr.build,Sem.run_bind,hzr,Result.andThen_ok,BJ hu,CY hse,h2,Sem.run_pure]
  ·cases hp
theorem Ah{t:TypeId}{zs xs:List Value}{ps:List (Nat × Nat)}{qs:Array (Nat × Operand)}{parts:List (Nat × Value)}(hp:SG P t=some (zs,ps))(hq:bj L qs.toList=some parts)(hf:Er ps parts zs=some xs:=by simp only [Er,BD,List.getElem?_cons_zero,List.getElem?_cons_succ,List.length_cons,List.length_nil,Value.cells,List.set_cons_zero,List.set_cons_succ];rfl):Rd P n ⟨d,.build t qs,ty,pos',af,g⟩ L A (.agg xs.toArray):=fun a w hfr _=>by
 have e:qs.map (fun (i,x)=>(i,a.eval x))=parts.toArray:=by apply Array.ext';simpa using hfr.evalp hq
 have e':(qs.map fun x=>match x with|(i,x)=>(i,a.eval x))=parts.toArray:=e
 simp only [execOp,e',Sem.run_bind,Uk hp hf,Result.andThen_ok,Sem.run_pure]
theorem JU{t et:TypeId}{k:Nat}{len:Nat}{zs bs xs:List Value}{qs:Array (Nat × Operand)}{parts:List (Nat × Value)}(hu:P.underlying t=some (.slice et))(hz:zr P et=some zs)(hk:sz P et=some k)(hq:bj L qs.toList=some parts)
  (hb:((Array.range (len*k)).map (zs.toArray[· % zs.toArray.size]!)).toList=bs) (hf:Er ((List.range len).map fun i=>(i*k,k)) parts bs=some xs) (hs:Nat.ble (len*k) 16777216=true):
  Ac P n ⟨d,.buildSlice t len qs,ty,pos',af,g⟩ L A (fun v A'=> ∃b,v= .slice (some ⟨b,0,none⟩) len len/\A'=cl b et xs::A):=
 Ew fun a w hfr hsat=>by
  have e':(qs.map fun x=>match x with|(i,x)=>(i,a.eval x))=parts.toArray:=by apply Array.ext';simpa using hfr.evalp hq
  obtain⟨z,hzc,hzr⟩:=Mf hz
  have hzc':z.cells=zs.toArray:=by apply Array.ext';rw [hzc]
  have hs': ¬(len*k>2 ^ 24):=by have:=Nat.le_of_ble_eq_true hs;omega
  have hfe:=M6 (place:=fun i=>some (i*k,k)) (ps:=(List.range len).map fun i=>(i*k,k)) (fun i x h=>LQ h) parts ((Array.range (len*k)).map (zs.toArray[· % zs.toArray.size]!)) xs (by rw [hb];exact hf)
  refine⟨_,{ w with heap:=w.heap.push (.cells xs.toArray et) },_,.inl ?_,⟨w.heap.size,rfl,rfl⟩,GR (w:=w) (w':= { w with heap:=w.heap.push (.cells xs.toArray et) }) (o:=.cells xs.toArray et) rfl hsat,IU⟩
  by_cases h0:len*k=0
  ·have hfe':Instr.fill (fun i=>some (i*k,k)) ((Array.range (len*k)).map ((#[]:Array Value)[· % (#[]:Array Value).size]!)) parts=some xs.toArray:=by
    rw [<-hfe];congr 1;rw [h0];simp
   simp only [execOp,e',Instr.buildSlice,Sem.run_bind,BJ hu,Result.andThen_ok,CY hk,Sem.run_ite,if_neg hs',if_pos h0,Sem.run_pure]
   rw [hfe']
   simp [newRow]
  ·simp only [execOp,e',Instr.buildSlice,Sem.run_bind,BJ hu,Result.andThen_ok,CY hk,Sem.run_ite,if_neg hs',if_neg h0,Sem.run_pure,hzr,hzc']
   rw [hfe]
   simp [newRow]
end
end Go.SL
/-
 More rules:a place of an array that is a value,or that lies in memory. (Conditions:none;generic over the program.)
-/
namespace Go.SL
open Go.RowKit Sem
variable {P : Program} {n : Nat} {L : List (Nat × Value)} {A : List Ao} {d : Option Tmp} {ty : TypeId} {DJ : String} {af : Array Edge} {g : Option (Nat × Bool)}
theorem Cu{t et:TypeId}{x y:Operand}{kk:IntKind}{j:Int}{b o e:Nat}{len:Nat}(i:Nat)(hx:ev L x=some (.pointer (some ⟨b,o,none⟩)))(hy:ev L y=some (.int kk j))(hu:P.underlying t=some (.array len et))(hz:sz P et=some e)(hj:j=i)(hi:i<len):
  Rd P n ⟨d,.indexAddr t x y,ty,DJ,af,g⟩ L A (.pointer (some ⟨b,o+i*e,none⟩)):=fun a w hf _=>by
 subst hj
 have h0:(0:Int)<=(i:Int)/\(i:Int)<(len:Int):=by omega
 simp [execOp,hf.eval hx,hf.eval hy,Instr.indexAt,Instr.sureAddr,asIntOf,BJ hu,CY hz,hi,EL]
end Go.SL
/-
 From a contract to a row:the whole of what lies there when the call begins is owned,and handed back as it was. A law's result is true,its arguments read as they did. (Conditions:none;generic over the program.)
-/
namespace Go.SL
open Go.RowKit Go.ChangeShapes
def Lo(W:World):Ao:=fun h=> ∀b,h b=W.heap[b]?
theorem ZD(W:World):sat W [Lo W]:=⟨fun b=>W.heap[b]?,fun _ _ h=>h,fun b=>W.heap[b]?,fun _=>none,fun _=>.inr rfl,fun b=>by unfold un;dsimp only;cases W.heap[b]? <;>rfl,fun _=>rfl,fun _=>rfl⟩
theorem O1{W w:World}{R:List Ao}(h:sat w (Lo W::R)){b:Nat}(hb:b<W.heap.size):w.heap[b]? =W.heap[b]? :=by
 obtain⟨h,a,h1,h2,d,e,o,_⟩:=h
 obtain⟨x,hx⟩: ∃x,W.heap[b]? =some x:=⟨_,Array.getElem?_eq_getElem hb⟩
 rw [hx]
 refine a b x ?_
 rw [e];unfold un;rw [o b,hx]
theorem Pb{W w:World}{R:List Ao}(h:sat w (Lo W::R))(k:Kept W w):Below W.heap.size W w:=⟨k.os,k.tape,k.output,k.size,fun _ hb=>O1 h hb⟩
def LC(P:Program)(ts:List TypeId):Bool:=ts.all fun t=>P.readableRec t && decide (t<P.types.size)
theorem JL{H:Type}{enc:TypeId × Value ->H}{P:Program}(hl:laidOutB P=true){W W':World}{sp:Nat ->Bool} : ∀ {ts:List TypeId} {vs:List Value} {ds:List (DataW H)} {ps:List MemPlace},LC P ts=true ->
  DataW.TrodAll enc P W 0 (fun _=>true) true ts vs ds ps ->(∀p∈ps,W.sameAt W' p) ->(∀p∈ps,sp p.block=true) ->DataW.TrodAll enc P W' 0 sp true ts vs ds ps
 | [],vs,ds,ps,_,h,_,_=>by obtain⟨rfl,rfl,rfl⟩:=trodAll_nil h;exact trodAll_mk0
 |t::ts,vs,ds,ps,hr,h,hs,hp=>by
  obtain⟨v,vs',d,ds',p,q,rfl,rfl,rfl,h1,h2⟩:=trodAll_cons h
  unfold LC at hr
  rw [List.all_cons,Bool.and_eq_true,Bool.and_eq_true,decide_eq_true_eq] at hr
  exact⟨p,q,WideElems.Trod_stays hl hr.1.1 hr.1.2 h1 (fun x hx=>hs x (List.mem_append_left _ hx)) (fun x hx=>hp x (List.mem_append_left _ hx)),JL hl hr.2 h2 (fun x hx=>hs x (List.mem_append_right _ hx)) (fun x hx=>hp x (List.mem_append_right _ hx)),rfl⟩
theorem XC{H:Type}{enc:TypeId × Value ->H}{P:Program}{f:Func}{s:ChangeSpec}{apart fresh handsOn again:Bool}{W W':World}{args:Array Value}{ds gs:List (DataW H)}{before:List MemPlace}{bt:TypeId}
  (hl:laidOutB P=true) (hr:LC P f.params.toList=true) (hW:DataW.Whole enc P f.params.toList s.vars apart W args.toList ds gs before) (hv:s.vars= []) (hrt:f.resultTypes= #[bt]) (hbt:P.underlying bt=some .bool)
  (hs:s.fn H ds= { results:= [.lit (.bool true)],args:=ds }) (hb:Below W.heap.size W W'):s.post enc P f apart fresh handsOn again W args (.bool true) W':=by
 have hlt:=hW.lt
 have hW':=hW
 obtain⟨p,q,hA,hV,rfl,hz,hn⟩:=hW
 rw [hv] at hV
 obtain⟨rfl,rfl⟩:=trodVars_none hV
 have hargs: ∀sp:Nat ->Bool,(∀x∈p++ [],sp x.block=true) ->DataW.TrodAll enc P W' 0 sp true f.params.toList args.toList (s.fn H (ds++ [])).args p:=fun sp h=>by
  rw [List.append_nil,hs]
  exact JL hl hr hA (fun x hx=>hb.same (hlt x (by simpa using hx))) (fun x hx=>h x (by simpa using hx))
 have hvars: ∀sp:Nat ->Bool,DataW.TrodVars enc P W' sp s.vars (s.fn H (ds++ [])).vars []:=fun sp=>by rw [hv,List.append_nil,hs];rfl
 have hres: ∀(b:Nat) (sp:Nat ->Bool) (hd:Bool),DataW.TrodAll enc P W' b sp hd f.resultTypes.toList ((Value.bool true).resultList f.resultTypes.size) (s.fn H (ds++ [])).results []:=fun b sp hd=>by
  rw [List.append_nil,hs,hrt];exact trodAll_mk1 (shut_bool hbt true)
 have hold: ∀x∈p++ [],(fun b=>decide (b<W.heap.size)) x.block=true:=fun x hx=>by simpa using hlt x hx
 refine⟨ds,[],_,[],p,[],hW',hres _ _ _,hargs _ hold,hvars _,hb.frame _,fun _=>?_⟩
 refine⟨ok_one hrt rfl (okWide_bool_mk hbt true),_,_,([]++p)++ [],⟨[]++p,[],trodAll_append (hargs _ (fun _ _=>rfl)) (hres _ _ _),hvars _,rfl,?_,?_⟩,?_⟩
 ·intro b off hp
  have hp':MemPlace.cell b off∈p++ []:=by simpa using hp
  rw [World.frozen?_of_block (w:=W) (hb.block b (hlt _ hp'))]
  exact hz b off hp'
 ·intro ha
  simpa using hn ha
 ·intro x hx _
  simpa using hx
end Go.SL
/-
 Rules in shorter words:whole numbers that are natural,regions in a sequence,results of a body,readings that bring a fact. (Conditions:none;generic over the program.)
-/
namespace Go.SL
open Go.RowKit
section
variable {P : Program} {n : Nat} {L : List (Nat × Value)} {A : List Ao} {d : Option Tmp} {ty : TypeId} {DJ : String} {af : Array Edge} {g : Option (Nat × Bool)} {t t' : TypeId} {x y : Operand}
theorem AN{i j:Nat}(hx:ev L x=some (.int .i64 (i:Int)))(hy:ev L y=some (.int .i64 (j:Int)))(h:i+j<9223372036854775808:=by omega):Rd P n ⟨d,.binOp .add t x y t',ty,DJ,af,g⟩ L A (.int .i64 ((i+j:Nat):Int)):=
 MH hx hy (JV (by omega) (by omega) (by omega))
theorem Ax{i j:Nat}(hx:ev L x=some (.int .i64 (i:Int)))(hy:ev L y=some (.int .i64 (j:Int)))(h:j<=i:=by omega)(h2:i<9223372036854775808:=by omega):Rd P n ⟨d,.binOp .sub t x y t',ty,DJ,af,g⟩ L A (.int .i64 ((i -j:Nat):Int)):=
 GY hx hy (JV (by omega) (by omega) (by omega))
theorem ET{i j:Nat}(hx:ev L x=some (.int .i64 (i:Int)))(hy:ev L y=some (.int .i64 (j:Int)))(h:i*j<9223372036854775808:=by omega):Rd P n ⟨d,.binOp .mul t x y t',ty,DJ,af,g⟩ L A (.int .i64 ((i*j:Nat):Int)):=
 bG hx hy (JV (by simp) (by omega) (by rw [<-Int.natCast_mul];omega))
theorem F4{i j:Nat}(hx:ev L x=some (.int .i64 (i:Int)))(hy:ev L y=some (.int .i64 (j:Int)))(h0:0<j:=by omega)(h:i<9223372036854775808:=by omega):Rd P n ⟨d,.binOp .quo t x y t',ty,DJ,af,g⟩ L A (.int .i64 ((i / j:Nat):Int)):=
 bE hx hy (by omega) (en (Vy i j) (by generalize i / j=q;omega) (by have:=Nat.div_le_self i j;generalize i / j=q at *;omega))
theorem Eo{p q:Prop}[Decidable p][Decidable q](h:p<->q):decide p=decide q:=by by_cases hp:p <;>simp [hp,h.1,<-h]
theorem D5{k:IntKind}{i j:Nat}(hx:ev L x=some (.int k (i:Int)))(hy:ev L y=some (.int k (j:Int))):Rd P n ⟨d,.binOp .leq t x y t',ty,DJ,af,g⟩ L A (.bool (decide (i<=j))):=by
 have:=GI (P:=P) (n:=n) (A:=A) (d:=d) (ty:=ty) (DJ:=DJ) (af:=af) (g:=g) (t:=t) (t':=t') hx hy
 rwa [Eo (q:=i<=j) (by omega)] at this
theorem Bz{k:IntKind}{i j:Nat}(hx:ev L x=some (.int k (i:Int)))(hy:ev L y=some (.int k (j:Int))):Rd P n ⟨d,.binOp .gtr t x y t',ty,DJ,af,g⟩ L A (.bool (decide (j<i))):=by
 have:=DI (P:=P) (n:=n) (A:=A) (d:=d) (ty:=ty) (DJ:=DJ) (af:=af) (g:=g) (t:=t) (t':=t') hx hy
 rwa [Eo (q:=j<i) (by omega)] at this
theorem Bl{k:IntKind}{i j:Nat}(hx:ev L x=some (.int k (i:Int)))(hy:ev L y=some (.int k (j:Int))):Rd P n ⟨d,.binOp .geq t x y t',ty,DJ,af,g⟩ L A (.bool (decide (j<=i))):=by
 have:=Dm (P:=P) (n:=n) (A:=A) (d:=d) (ty:=ty) (DJ:=DJ) (af:=af) (g:=g) (t:=t) (t':=t') hx hy
 rwa [Eo (q:=j<=i) (by omega)] at this
theorem Ab{k:IntKind}{i j:Nat}(hx:ev L x=some (.int k (i:Int)))(hy:ev L y=some (.int k (j:Int))):Rd P n ⟨d,.binOp .eql t x y t',ty,DJ,af,g⟩ L A (.bool (decide (i=j))):=by
 have:=CW (P:=P) (n:=n) (A:=A) (d:=d) (ty:=ty) (DJ:=DJ) (af:=af) (g:=g) (t:=t) (t':=t') hx hy
 rwa [Eo (q:=i=j) (by omega)] at this
theorem Bj{k:IntKind}{i j:Nat}(hx:ev L x=some (.int k (i:Int)))(hy:ev L y=some (.int k (j:Int))):Rd P n ⟨d,.binOp .neq t x y t',ty,DJ,af,g⟩ L A (.bool (decide (i≠j))):=by
 have:=Dy (P:=P) (n:=n) (A:=A) (d:=d) (ty:=ty) (DJ:=DJ) (af:=af) (g:=g) (t:=t) (t':=t') hx hy
 rwa [Eo (q:=i≠j) (by omega)] at this
theorem BE{v:Value}{r:List Value}(h:ev L x=some (.tuple (v::r).toArray)):Rd P n ⟨d,.extract x 0,ty,DJ,af,g⟩ L A v:=NZ h (by simp)
theorem BN{v u:Value}{r:List Value}(h:ev L x=some (.tuple (u::v::r).toArray)):Rd P n ⟨d,.extract x 1,ty,DJ,af,g⟩ L A v:=NZ h (by simp)
theorem HI{o:Oper}{b:Bool}(h:Rd P n o L A (.bool b))(hb:b=false:=by first|rfl|(simp only [decide_eq_false_iff_not,ne_eq,Decidable.not_not,Bool.not_eq_false',beq_iff_eq];first|omega|assumption|rfl)|(simp;done)|simp_all):Rd P n o L A (.bool false):=hb ▸ h
theorem Al{α:Type}{v:Value}{e:Nat}{f:α ->List Value}{l:List α}{ao:Option Addr}{cap:Nat}{B:List Ao}{et:TypeId}{ts:Array TypeId}(hx:ev L x=some v)(ht:ts[0]? =some t)(hu:P.underlying t=some (.slice et))(hA:Sv B v e f l ao cap:=by assumption):
  Rd P n ⟨d,.call ⟨.builtin .len, #[x],ts⟩,ty,DJ,af,g⟩ L A (.int .i64 ((l.length:Nat):Int)):=BA (hA.val ▸ hx) ht hu
end
section
variable {P : Program} {m : Md} {Q : Exit → Act → World → Prop} {w0 : World} {n : Nat} {L : List (Nat × Value)} {A : List Ao} {ops : Array Oper} {rest : List Oper} {o : Oper}
theorem A4{id:Nat}{l:List Oper}{y:Code}(h: ∀K:Act ->World ->Prop,gn (P:=P) (m:=m) (y:=y) (Q:=Q) K ->WL P m l.toArray (Exit.then K Q) w0 n l L A):WC P m Q w0 n (.seq (.region id l.toArray false) y) L A:=
 A7 fun K hK=>AD (h K hK)
theorem A3{y:Code}{K:Act ->World ->Prop}(hK:gn (P:=P) (m:=m) (y:=y) (Q:=Q) K)(h:WC P m Q w0 n y L A):WL P m ops (Exit.then K Q) w0 n [] L A:=AW (A5 hK h)
theorem Bu{p:Prop}(h: ∀w,sat w A ->p){c:Code}(k:p ->WC P m Q w0 n c L A):WC P m Q w0 n c L A:=fun a w hd0 hf hs hk=>k (h w hs) a w hd0 hf hs hk
theorem Cl{p:Prop}(h: ∀w,sat w A ->p)(k:p ->WL P m ops Q w0 n rest L A):WL P m ops Q w0 n rest L A:=fun a w hd0 hf hs hk=>k (h w hs) a w hd0 hf hs hk
theorem End.go{fn:Func}{F:List Ao}{ρ:Type}{val:ρ ->Value}{post:ρ ->List Ao}{Q:Act ->World ->Prop}(h:End P fn n w0 F val post Q)(r:ρ)(hr:Rs P fn n L A (val r))
  (hs:Sub A (post r++F):=by simp only [List.cons_append,List.nil_append];repeat (first|with_reducible exact Sub.refl|with_reducible exact Sub.nil|with_reducible refine Sub.cons (by repeat (first|with_reducible exact Ext.here|with_reducible apply Ext.there)) ?_|with_reducible refine Sub.tail ?_)):Ps cu Q w0 n L A:=h cu L A rfl ⟨r,hr,hs⟩
end
section
variable {P : Program} {fn : Func} {n : Nat} {L : List (Nat × Value)} {A : List Ao}
theorem Cp{t u:Nat}{ty:TypeId}{b i k:Nat}{T:TypeId}{xs vs:List Value}{x:Value}(hr:fn.results= #[.cell t ty,.tmp u])(h:Dj L t=some (.pointer (some ⟨b,i,none⟩)))(h':Dj L u=some x)(ht:tk P ty=some (some k))
  (hA:Has A (cl b T xs):=by repeat (first|with_reducible exact Has.here|with_reducible refine Has.there ?_)) (hl:i+k<=xs.length:=by exact Nat.le_of_ble_eq_true rfl) (hv:(xs.drop i).take k=vs:=by rfl):Rs P fn n L A (.tuple #[.agg vs.toArray,x]):=fun a w hf hs=>by
 have e:=EI hf h
 have e':=EI hf h'
 have:=EZ (P:=P) ht (i:=i) (hA.sat hs) (by simpa using hl)
 simp only [results,hr,List.mapM_toArray,List.mapM_cons,List.mapM_nil,Sem.run_bind,Sem.run_map,e,e',asAddr,Sem.run_pure,Result.andThen_ok,this]
 simp [hv]
end
section
variable {P : Program} {m : Md} {ops : Array Oper} {Q : Exit → Act → World → Prop} {w0 : World} {n : Nat} {S : List Ao} {J : Nat → Nat} {fuel : Nat} {is : List Nat} {L : List (Nat × Value)} {A : List Ao} {o : Oper}
theorem WJ_tk(i:Nat){v:Value}{d:Nat}(h:Rd P n o L S v)(hQ:I4 Q)(k:WJ P m ops Q w0 n S J fuel (i::is) ((d,v)::L) A)(hi:ops[i]? =some o)(hc:IX ops J false (TR ops.size is) i=true)(hw:Wt ops o L=some true)(hd:o.dst=some d)(hn:Nat.blt d n=true)
  (hS:Sub A S:=by repeat (first|with_reducible exact Sub.refl|with_reducible exact Sub.nil|with_reducible refine Sub.cons (by repeat (first|with_reducible exact Ext.here|with_reducible apply Ext.there)) ?_|with_reducible refine Sub.tail ?_)):WJ P m ops Q w0 n S J (fuel+1) is L A:=
 Tz i hi hc h hw hd hn (hQ _ _) hS k
end
end Go.SL
/-
 What is handed in,as the logic sees it:a slice that can be read as data,its elements' cells,typed. (Conditions:none;generic over the program.)
-/
namespace Go.SL
open Go.RowKit Go.ChangeShapes Go.WideShapes
theorem Wo{W w:World}{R:List Ao}(h:sat w (Lo W::R)){a:Addr}{v:Value}(hc:W.cell? a=some v):w.cell? a=some v:=by
 unfold World.cell? at hc ⊢
 have hlt:a.block<W.heap.size:=by
  rcases Nat.lt_or_ge a.block W.heap.size with q|q
  ·exact q
  ·have hn:W.heap[a.block]? =none:=by simpa using q
   rw [hn] at hc;simp at hc
 rw [O1 h hlt];exact hc
section
variable {H : Type} {enc : TypeId × Value → H} {P : Program} {W : World} {base : Nat} {sp : Nat → Bool} {hd : Bool}
theorem NP{t:TypeId}{k:Nat}(h:sz P t=some k):P.cellsOf t=k:=by
 unfold sz at h;unfold Program.cellsOf;rw [h];rfl
theorem TS{α:Type}{p:Nat ->α ->Prop} : ∀(len:Nat),(∀i,i<len -> ∃c,p i c) -> ∃l:List α,l.length=len/\ ∀i c,l[i]? =some c ->p i c
 |0,_=>⟨[],rfl,fun i c h=>by simp at h⟩
 |len+1,hex=>by
  obtain⟨l,h1,h2⟩:=TS len (fun i hi=>hex i (by omega))
  obtain⟨c,h3⟩:=hex len (by omega)
  refine⟨l++ [c],by simp [h1],fun i d hd'=>?_⟩
  rw [List.getElem?_append] at hd'
  split at hd'
  ·exact h2 i d hd'
  ·have:i=len:=by
    have:=(List.getElem?_eq_some_iff.1 hd').1
    simp at this;omega
   subst this
   rw [h1] at hd';simp at hd';subst hd'
   exact h3
theorem Km{t e:TypeId}{k fuel:Nat}{cs:List Value}{x:DataW H × List MemPlace}(ht:P.underlying t=some (.slice e))(hk:sz P e=some (k+1))(h:DataW.trod enc P W base sp hd fuel t cs=some x):
  ∃(v:Value) (l:List (List Value)) (ao:Option Addr) (cap:Nat),cs= [v]/\Sv [Lo W] v (k+1) id l ao cap/\cap<=maxLen/\
   ((x.1= .nil/\l= []/\v= .slice none 0 0)\/ ∃ds rs n,x.1= .slice ds rs/\ds.length=l.length/\ao.isSome=true/\(∃n',fuel=n'+1/\n=n')/\ ∀(i:Nat) (c:List Value),l[i]? =some c -> ∃y,DataW.trod enc P W base sp hd n e c=some y/\ds[i]? =some y.1):=by
 have hce:=NP hk
 rcases DataW.trod_slice ht h with ⟨rfl,rfl⟩|⟨a,len,cap,elems,rest,n,hf,rfl,rfl,_,hlc,hcm,hel,hall,_⟩
 ·exact⟨_,[],none,0,rfl,⟨rfl,fun h=>absurd rfl h,fun x hx=>by simp at hx,Nat.le_refl _,fun w _ i x hx=>by simp at hx⟩,by simp,.inl ⟨rfl,rfl,rfl⟩⟩
 ·rw [hce] at hall
  have hex: ∀i,i<len -> ∃c y,W.cells? base (a.add (i*(k+1))) (k+1)=some c/\DataW.trod enc P W base sp hd n e c=some y/\elems[i]? =some y:=fun i hi=>by
   have:=hall i hi
   rw [List.getElem?_eq_getElem (by omega)] at this
   obtain⟨c,h1,h2⟩:=Option.bind_eq_some_iff.1 this
   exact⟨c,_,h1,h2,by rw [List.getElem?_eq_getElem (by omega)]⟩
  have hl:=TS (p:=fun i c=> ∃y,W.cells? base (a.add (i*(k+1))) (k+1)=some c/\DataW.trod enc P W base sp hd n e c=some y/\elems[i]? =some y) len hex
  obtain⟨l,hll,hlx⟩:=hl
  have hspot:l≠ [] ->a.spot=none:=fun hne=>by
   obtain⟨c,hc⟩: ∃c,l[0]? =some c:=⟨_,List.getElem?_eq_getElem (by rcases l with _|⟨x,r⟩;exact absurd rfl hne;simp)⟩
   obtain⟨y,h1,_⟩:=hlx 0 c hc
   obtain⟨_,hlen,hcell⟩:=World.cells?_some h1
   have h0:=hcell 0 (by omega)
   rw [List.getElem?_eq_getElem (by omega)] at h0
   have:=World.cell?_spot h0
   simpa [Addr.add] using this
  refine⟨_,l,some a,cap,rfl,⟨by rw [hll],fun hne=>?_,fun c hc=>?_,by omega,fun w hs i c hc j u hu=>?_⟩,hcm,.inr ⟨_,_,n,rfl,by simp [hel,hll],rfl,⟨n,hf,rfl⟩,fun i c hc=>?_⟩⟩
  ·obtain⟨b,o,s⟩:=a
   have:=hspot hne
   simp at this;subst this
   exact⟨b,o,rfl⟩
  ·obtain⟨i,hi,he⟩:=List.getElem_of_mem hc
   obtain⟨y,h1,_⟩:=hlx i c (by rw [List.getElem?_eq_getElem hi,he])
   exact(World.cells?_some h1).2.1
  ·have hne:l≠ []:=by intro h;subst h;simp at hc
   have hsp:=hspot hne
   obtain⟨b,o,s⟩:=a
   simp at hsp;subst hsp
   obtain⟨y,h1,_⟩:=hlx i c hc
   obtain⟨_,hlen,hcell⟩:=World.cells?_some h1
   have hj:j<k+1:=by have:=(List.getElem?_eq_some_iff.1 hu).1;simp only [id] at this;omega
   have h0:=hcell j hj
   simp only [id] at hu
   rw [hu,EL,EL] at h0
   have:=Wo hs h0
   simp only [W0,Z7,Option.getD_some]
   rw [<-this];congr 2;omega
  ·obtain⟨y,h1,h2,h3⟩:=hlx i c hc
   exact⟨y,h2,by rw [List.getElem?_map,h3];rfl⟩
theorem typed{α:Type}{f:α ->List Value}{Φ:α ->Prop} : ∀ {l:List (List Value)},(∀x∈l,∃a,x=f a/\Φ a) -> ∃l':List α,l=l'.map f/\ ∀a∈l',Φ a
 | [],_=>⟨[],rfl,fun a h=>by simp at h⟩
 |x::r,h=>by
  obtain⟨a,rfl,ha⟩:=h x (by simp)
  obtain⟨l',rfl,hl⟩:=typed (l:=r) (fun y hy=>h y (by simp [hy]))
  exact⟨a::l',rfl,fun b hb=>by rcases List.mem_cons.1 hb with rfl|hb;exact ha;exact hl b hb⟩
theorem Sv.typed{α:Type}{f:α ->List Value}{A:List Ao}{v:Value}{e:Nat}{l:List α}{ao:Option Addr}{cap:Nat}(h:Sv A v e id (l.map f) ao cap):Sv A v e f l ao cap:=by
 refine⟨by rw [h.val,List.length_map],fun hne=>h.adr (by intro e;apply hne;simpa using e),fun x hx=>h.len (f x) (List.mem_map.2 ⟨x,hx,rfl⟩),by have:=h.le;rwa [List.length_map] at this,fun w hs i x hx j u hu=>?_⟩
 exact h.cell w hs i (f x) (by rw [List.getElem?_map,hx];rfl) j u hu
def Hz(k:IntKind)(i:Int):List Value:= [.int k i]
end
end Go.SL
/-
 What is handed in,cell by cell:a type's cells as a list of kinds,a reading's cells by them. (Conditions:none;generic over the program.)
-/
namespace Go.SL
open Go.RowKit Go.ChangeShapes Go.WideShapes
inductive CK|int (k:IntKind)|bool|str|slice (e:TypeId)|ints (k:IntKind) (n:Nat)
structure Meas {H:Type} (m:DataW H ->Nat):Prop where
 agg: ∀xs x,x∈xs ->m x<=m (.agg xs)
 len: ∀ds rs,ds.length<=m (.slice ds rs)
 el: ∀ds rs d,d∈ds ->m d<=m (.slice ds rs)
 str: ∀s,s.length<=m (.lit (.string s))
section
variable {H : Type} (enc : TypeId × Value → H) (P : Program) (W : World) (base : Nat) (sp : Nat → Bool) (hd : Bool) (m : DataW H → Nat) (N : Nat)
def SlOf(e:TypeId)(v:Value):Prop:= ∃l ao cap,Sv [Lo W] v (P.cellsOf e) id l ao cap/\cap<=maxLen/\l.length<=N/\ ∀c∈l,∃n y,DataW.trod enc P W base sp hd n e c=some y/\m y.1<=N
def Fits:List CK ->List Value ->Prop
 | [],cs=>cs= []
 | .int k::r,cs=> ∃i cs',cs= .int k i::cs'/\(Lit.int k i).wf=true/\Fits r cs'
 | .bool::r,cs=> ∃b cs',cs= .bool b::cs'/\Fits r cs'
 | .str::r,cs=> ∃s cs',cs= .string s::cs'/\(s.size<=maxLen/\s.size<=N)/\Fits r cs'
 | .ints k n::r,cs=> ∃(l:List Int) (cs':List Value),cs=l.map (Value.int k)++cs'/\(l.length=n/\ ∀i∈l,(Lit.int k i).wf=true)/\Fits r cs'
 | .slice e::r,cs=> ∃v cs',cs=v::cs'/\SlOf enc P W base sp hd m N e v/\Fits r cs'
end
def Y5(P:Program)(rec:TypeId ->Option (List CK))(tot:Nat):Nat ->List Field ->Option (List CK)
 |off,[]=>if off=tot then some [] else none
 |off,f::r=>if f.offset=off then (rec f.type).bind fun a=>(Y5 P rec tot (off+P.cellsOf f.type) r).map (a++ ·) else none
def LX(P:Program):Nat ->TypeId ->Option (List CK)
 |0,_=>none
 |n+1,t=>match P.underlying t with
  |some (.int k)=>some [.int k]
  |some .bool=>some [.bool]
  |some .string=>some [.str]
  |some (.slice e)=>if P.cellsOf e=0 then none else (sz P e).map fun _=> [.slice e]
  |some (.struct fs)=>Y5 P (LX P n) (P.cellsOf t) 0 fs.toList
  |some (.array k e)=>if P.cellsOf t=k*P.cellsOf e then
    match P.underlying e with
    |some (.int q)=>if P.cellsOf e=1 then some [.ints q k] else none
    |_=>(LX P n e).map fun a=>(List.replicate k a).flatten
   else none
  |_=>none
section
variable {H : Type} {enc : TypeId × Value → H} {P : Program} {W : World} {base : Nat} {sp : Nat → Bool} {hd : Bool} {m : DataW H → Nat} {N : Nat}
theorem Fits.app: ∀ {a b:List CK} {xs ys:List Value},Fits enc P W base sp hd m N a xs ->Fits enc P W base sp hd m N b ys ->Fits enc P W base sp hd m N (a++b) (xs++ys)
 | [],b,xs,ys,h,h'=>by rw [Fits] at h;subst h;exact h'
 | .int k::r,b,xs,ys,h,h'=>by rw [Fits] at h;obtain⟨i,cs',rfl,hw,hr⟩:=h;exact⟨i,cs'++ys,rfl,hw,hr.app h'⟩
 | .bool::r,b,xs,ys,h,h'=>by rw [Fits] at h;obtain⟨i,cs',rfl,hr⟩:=h;exact⟨i,cs'++ys,rfl,hr.app h'⟩
 | .str::r,b,xs,ys,h,h'=>by rw [Fits] at h;obtain⟨i,cs',rfl,hw,hr⟩:=h;exact⟨i,cs'++ys,rfl,hw,hr.app h'⟩
 | .ints k n::r,b,xs,ys,h,h'=>by rw [Fits] at h;obtain⟨i,cs',rfl,hw,hr⟩:=h;exact⟨i,cs'++ys,by rw [List.append_assoc],hw,hr.app h'⟩
 | .slice e::r,b,xs,ys,h,h'=>by rw [Fits] at h;obtain⟨i,cs',rfl,hw,hr⟩:=h;exact⟨i,cs'++ys,rfl,hw,hr.app h'⟩
theorem OL{rec:TypeId ->Option (List CK)}{n:Nat}{cs:List Value}(hrec: ∀t ks c x,rec t=some ks ->DataW.trod enc P W base sp hd n t c=some x ->m x.1<=N ->Fits enc P W base sp hd m N ks c):
  ∀(l:List Field) (off:Nat) (ks:List CK),(∀f∈l,∃x,DataW.trod enc P W base sp hd n f.type ((cs.drop f.offset).take (P.cellsOf f.type))=some x/\m x.1<=N) ->Y5 P rec cs.length off l=some ks ->Fits enc P W base sp hd m N ks (cs.drop off)
 | [],off,ks,_,h=>by
  unfold Y5 at h
  split at h
  ·rename_i e
   cases h
   rw [Fits,List.drop_of_length_le (by omega)]
  ·cases h
 |f::r,off,ks,hx,h=>by
  unfold Y5 at h
  split at h
  ·rename_i e
   obtain⟨a,ha,h⟩:=Option.bind_eq_some_iff.1 h
   obtain⟨b,hb,rfl⟩:=Option.map_eq_some_iff.1 h
   obtain⟨x,h1,h2⟩:=hx f (by simp)
   have hf:=hrec _ _ _ _ ha h1 h2
   have hg:=OL hrec r _ _ (fun g hg=>hx g (by simp [hg])) hb
   have:=hf.app hg
   rw [e,<-List.drop_drop,List.take_append_drop] at this
   exact this
  ·cases h
theorem O9{n e k:Nat}{q:IntKind}(he:P.underlying e=some (.int q)): ∀(k:Nat) (cs:List Value),cs.length=k ->(∀i,i<k -> ∃x,DataW.trod enc P W base sp hd n e ((cs.drop (i*1)).take 1)=some x) ->
  ∃l:List Int,cs=l.map (Value.int q)/\l.length=k/\ ∀i∈l,(Lit.int q i).wf=true
 |0,cs,h,_=>⟨[],List.eq_nil_of_length_eq_zero h,rfl,fun i h=>by simp at h⟩
 |k+1,cs,h,hx=>by
  cases cs with
  |nil=>simp at h
  |cons c cs=>
   obtain⟨x,h0⟩:=hx 0 (by omega)
   obtain⟨i,h1,_,hw⟩:=DataW.trod_int he h0
   simp at h1
   subst h1
   obtain⟨l,rfl,h2,h3⟩:=O9 (k:=k) he k cs (by simpa using h) (fun i hi=>by
    have:=hx (i+1) (by omega)
    simpa [Nat.add_mul] using this)
   exact⟨i::l,rfl,by simp [h2],fun j hj=>by rcases List.mem_cons.1 hj with rfl|hj;exact hw;exact h3 j hj⟩
theorem QH{n e:Nat}{ks:List CK}(hrec: ∀c x,DataW.trod enc P W base sp hd n e c=some x ->m x.1<=N ->Fits enc P W base sp hd m N ks c)(s:Nat): ∀(k:Nat) (cs:List Value),cs.length=k*s ->
  (∀i,i<k -> ∃x,DataW.trod enc P W base sp hd n e ((cs.drop (i*s)).take s)=some x/\m x.1<=N) ->Fits enc P W base sp hd m N (List.replicate k ks).flatten cs
 |0,cs,h,_=>by
  have:cs= []:=List.eq_nil_of_length_eq_zero (by simpa using h)
  subst this
  simp [Fits]
 |k+1,cs,h,hx=>by
  obtain⟨x,h0,h1⟩:=hx 0 (by omega)
  have hf:=hrec _ _ h0 h1
  have hl:(cs.drop s).length=k*s:=by rw [List.length_drop,h,Nat.add_mul];omega
  have hg:=QH hrec s k (cs.drop s) hl (fun i hi=>by
   obtain⟨y,h2,h3⟩:=hx (i+1) (by omega)
   refine⟨y,?_,h3⟩
   rw [List.drop_drop]
   rw [Nat.add_mul,Nat.one_mul,Nat.add_comm] at h2
   exact h2)
  have:=hf.app hg
  simp only [Nat.zero_mul,List.drop_zero,List.take_append_drop] at this
  rw [List.replicate_succ,List.flatten_cons]
  exact this
theorem If(hm:Meas m): ∀(n:Nat) (t:TypeId) (ks:List CK) (fuel:Nat) (cs:List Value) (x:DataW H × List MemPlace),LX P n t=some ks ->DataW.trod enc P W base sp hd fuel t cs=some x ->m x.1<=N ->Fits enc P W base sp hd m N ks cs
 |0,t,ks,fuel,cs,x,h,_,_=>by cases h
 |n+1,t,ks,fuel,cs,x,h,hx,hN=>by
  unfold LX at h
  split at h
  ·rename_i k hu
   cases h
   obtain⟨i,rfl,_,hw⟩:=DataW.trod_int hu hx
   exact⟨i,[],rfl,hw,rfl⟩
  ·rename_i hu
   cases h
   obtain⟨b,rfl,_⟩:=DataW.trod_bool hu hx
   exact⟨b,[],rfl,rfl⟩
  ·rename_i hu
   cases h
   obtain⟨s,rfl,rfl,hw⟩:=DataW.trod_string hu hx
   refine⟨s,[],rfl,⟨hw,?_⟩,rfl⟩
   have:=hm.str s.data.toList
   simp only [Array.length_toList] at this
   have h2:s.size=s.data.size:=rfl
   have h3:m (.lit (.string s.data.toList))<=N:=hN
   omega
  ·rename_i e hu
   split at h
   ·cases h
   ·rename_i hc
    obtain⟨s,hs,rfl⟩:=Option.map_eq_some_iff.1 h
    have hce:=NP hs
    obtain⟨j,hj⟩: ∃j,s=j+1:=⟨s -1,by omega⟩
    subst hj
    obtain⟨v,l,ao,cap,rfl,hS,hcap,hor⟩:=Km hu hs hx
    refine⟨v,[],rfl,⟨l,ao,cap,by rw [hce];exact hS,hcap,?_,?_⟩,rfl⟩
    ·rcases hor with ⟨_,rfl,_⟩|⟨ds,rs,n',h1,h2,_⟩
     ·simp
     ·have:=hm.len ds rs
      rw [h1] at hN;omega
    ·intro c hcm
     rcases hor with ⟨_,rfl,_⟩|⟨ds,rs,n',h1,h2,_,_,h3⟩
     ·cases hcm
     ·obtain⟨i,hi,he⟩:=List.getElem_of_mem hcm
      obtain⟨y,hy,hyd⟩:=h3 i c (by rw [List.getElem?_eq_getElem hi,he])
      refine⟨_,y,hy,?_⟩
      have:=hm.el ds rs y.1 (List.mem_of_getElem? hyd)
      rw [h1] at hN;omega
  ·rename_i fs hu
   obtain⟨xs,n',rfl,rfl,hl,hxl,hf⟩:=DataW.trod_struct hu hx
   rw [<-hl] at h
   refine OL (n:=n') (cs:=cs) (fun t ks c x h1 h2 h3=>If hm n t ks n' c x h1 h2 h3) fs.toList 0 ks (fun f hfm=>?_) h
   obtain⟨i,hi,he⟩:=List.getElem_of_mem hfm
   have hif:fs[i]? =some f:=by rw [Array.getElem?_eq_getElem (by simpa using hi)];simpa using he
   have h1:=hf i f hif
   have hi2:i<xs.length:=by rw [hxl];simpa using hi
   rw [List.getElem?_eq_getElem hi2] at h1
   exact⟨xs[i],h1,Nat.le_trans (hm.agg _ _ (List.mem_map.2 ⟨xs[i],List.getElem_mem hi2,rfl⟩)) hN⟩
  ·rename_i k e hu
   split at h
   ·rename_i hc
    obtain⟨xs,n',rfl,rfl,hl,hxl,hf⟩:=DataW.trod_array hu hx
    have hE: ∀i,i<k -> ∃x,DataW.trod enc P W base sp hd n' e ((cs.drop (i*P.cellsOf e)).take (P.cellsOf e))=some x/\m x.1<=N:=fun i hi=>by
     have h1:=hf i hi
     have hi2:i<xs.length:=by omega
     rw [List.getElem?_eq_getElem hi2] at h1
     exact⟨xs[i],h1,Nat.le_trans (hm.agg _ _ (List.mem_map.2 ⟨xs[i],List.getElem_mem hi2,rfl⟩)) hN⟩
    split at h
    ·rename_i q hq
     split at h
     ·rename_i h1
      cases h
      rw [h1] at hc hE
      obtain⟨l,rfl,h2,h3⟩:=O9 (k:=k) hq k cs (by omega) (fun i hi=>let ⟨x,a,_⟩:=hE i hi;⟨x,a⟩)
      exact⟨l,[],by simp,⟨h2,h3⟩,rfl⟩
     ·cases h
    ·obtain⟨a,ha,rfl⟩:=Option.map_eq_some_iff.1 h
     exact QH (n:=n') (fun c x h1 h2=>If hm n e a n' c x ha h1 h2) (P.cellsOf e) k cs (by omega) hE
   ·cases h
  ·cases h
theorem Us(hm:Meas m){t:TypeId}{v:Value}{d:DataW H}{ps:List MemPlace}{r:Reach}{b0:Nat}{fs:Array Field}(ht:P.underlying t=some (.struct fs))(hval:Value.okWide P W r b0 t v)(h:DataW.Trod enc P W base sp hd t v d ps)
  {n:Nat} {ks:List CK} (hk:LX P n t=some ks) (hN:m d<=N): ∃cs:List Value,v= .agg cs.toArray/\Fits enc P W base sp hd m N ks cs:=by
 obtain⟨cs,rfl,_⟩:=okWide_struct ht hval
 obtain⟨fuel,hf⟩:=h
 exact⟨cs.toList,by simp,If hm n t ks fuel _ _ hk hf hN⟩
theorem SlOf.cells(hm:Meas m){e:TypeId}{v:Value}(h:SlOf enc P W base sp hd m N e v){n:Nat}{ks:List CK}(hk:LX P n e=some ks):
  ∃l ao cap,Sv [Lo W] v (P.cellsOf e) id l ao cap/\cap<=maxLen/\l.length<=N/\ ∀c∈l,Fits enc P W base sp hd m N ks c:=by
 obtain⟨l,ao,cap,h1,h2,h3,h4⟩:=h
 refine⟨l,ao,cap,h1,h2,h3,fun c hc=>?_⟩
 obtain⟨n',y,hy,hyN⟩:=h4 c hc
 exact If hm n e ks n' c y hk hy hyN
theorem SlOf.typed(hm:Meas m){e:TypeId}{v:Value}(h:SlOf enc P W base sp hd m N e v){n:Nat}{ks:List CK}(hk:LX P n e=some ks){α:Type}{f:α ->List Value}{Φ:α ->Prop}(hf: ∀c,Fits enc P W base sp hd m N ks c -> ∃a,c=f a/\Φ a):
  ∃l ao cap,Sv [Lo W] v (P.cellsOf e) f l ao cap/\cap<=maxLen/\l.length<=N/\ ∀a∈l,Φ a:=by
 obtain⟨l,ao,cap,h1,h2,h3,h4⟩:=h.cells hm hk
 obtain⟨l',rfl,h5⟩:=SL.typed (f:=f) (Φ:=Φ) (l:=l) (fun c hc=>hf c (h4 c hc))
 exact⟨l',ao,cap,Sv.typed h1,h2,by simpa using h3,h5⟩
end
theorem End.goE{P:Program}{n:Nat}{w0:World}{L:List (Nat × Value)}{A:List Ao}{fn:Func}{F:List Ao}{ρ:Type}{val:ρ ->Value}{post:ρ ->List Ao}{Q:Act ->World ->Prop}(h:End P fn n w0 F val post Q)(r:ρ){v:Value}(hr:Rs P fn n L A v)(he:v=val r)
  (hs:Sub A (post r++F):=by simp only [List.cons_append,List.nil_append];repeat (first|with_reducible exact Sub.refl|with_reducible exact Sub.nil|with_reducible refine Sub.cons (by repeat (first|with_reducible exact Ext.here|with_reducible apply Ext.there)) ?_|with_reducible refine Sub.tail ?_)):Ps cu Q w0 n L A:=h cu L A rfl ⟨r,he ▸ hr,hs⟩
end Go.SL
/-
 Appending one thing,or what may be read;writing into a slice;encodings of things as cells. (Conditions:none;generic over the program.)
-/
namespace Go.SL
open Go.RowKit
structure Enc {α:Type} (f:α ->List Value) (e:Nat):Prop where
 len: ∀x,(f x).length=e
 one: ∀x,∀v∈f x,v.oneCell'=true
theorem Nu: ∀(xs zs:List Value) (off:Nat),xs.length+off=zs.length ->BD off xs zs=zs.take off++xs
 | [],zs,off,h=>by simp at h;simp [BD,h]
 |x::xs,zs,off,h=>by
  unfold BD
  simp at h
  rw [Nu xs (zs.set off x) (off+1) (by simp;omega)]
  have hlt:off<zs.length:=by omega
  rw [List.set_eq_take_append_cons_drop,if_pos hlt,List.take_append,List.length_take]
  have e1:min off zs.length=off:=by omega
  rw [e1,List.take_take]
  have e2:min (off+1) off=off:=by omega
  have e3:off+1 -off=1:=by omega
  rw [e2,e3];simp
section
variable {P : Program} {n : Nat} {L : List (Nat × Value)} {A : List Ao} {d : Option Tmp} {ty : TypeId} {pos' : String} {af : Array Edge} {g : Option (Nat × Bool)}
theorem Br{t et:TypeId}{k:Nat}{x:Operand}{v:Value}{xs zs:List Value}(hx:ev L x=some v)(hu:P.underlying t=some (.slice et))(hz:zr P et=some zs)(hk:sz P et=some k)(hv:v.cells=xs.toArray:=by rfl)(hl:xs.length=k:=by rfl)(hzl:zs.length=k:=by rfl)
  (hs:Nat.ble k 16777216=true:=by rfl):Ac P n ⟨d,.buildSlice t 1 #[(0,x)],ty,pos',af,g⟩ L A (fun r A'=> ∃b,r= .slice (some ⟨b,0,none⟩) 1 1/\A'=cl b et xs::A):=by
 have hsz:v.cells.size=k:=by rw [hv];simpa using hl
 refine JU (parts:= [(0,v)]) (bs:=zs) (xs:=xs) hu hz hk ?_ ?_ ?_ (by simpa using hs)
 ·simp [bj,hx]
 ·apply List.ext_getElem?
  intro i
  simp only [Array.toList_map,Array.toList_range,List.getElem?_map,Nat.one_mul]
  by_cases hi:i<k
  ·rw [List.getElem?_range hi,Option.map_some]
   have hlt:i % zs.toArray.size<zs.toArray.size:=Nat.mod_lt _ (by simp;omega)
   rw [getElem!_pos zs.toArray _ hlt]
   have:i % zs.toArray.size=i:=Nat.mod_eq_of_lt (by simp;omega)
   simp only [this]
   simp [hzl,hi]
  ·rw [List.getElem?_eq_none (by simp;omega),List.getElem?_eq_none (by omega)];rfl
 ·unfold Er
  simp only [List.range_succ,List.range_zero,List.nil_append,List.map_cons,List.map_nil,List.getElem?_cons_zero,Nat.zero_mul,Nat.zero_add]
  rw [show Nat.beq v.cells.size k=true from by rw [hsz];exact Nat.beq_refl k,show Nat.ble k zs.length=true from by rw [hzl];exact Nat.ble_eq_true_of_le (Nat.le_refl k)]
  simp only [Bool.and_self,cond_true]
  unfold Er
  rw [Nu _ _ _ (by rw [hv];simp [hl,hzl])]
  rw [hv];simp
theorem B6{α:Type}{t t' et:TypeId}{e by_:Nat}{x y:Operand}{a:Option Nat}{cap len b:Nat}{f:α ->List Value}{l:List α}{xs:List Value}{R:List Ao}(hE1:Enc f e)(u:α)(hx:ev L x=some (sl a len cap))(hy:ev L y=some (.slice (some ⟨b,0,none⟩) 1 1))(ht:P.underlying t=some (.slice et))(ht':P.underlying t'=some (.slice et))
  (hel:el P et=some (e,by_)) (hA:Has A (cl b et xs):=by repeat (first|with_reducible exact Has.here|with_reducible refine Has.there ?_)) (hE:Ext A (Aa a cap e et f l) R:=by repeat (first|with_reducible exact Ext.here|with_reducible apply Ext.there)) (hu:xs=f u:=by rfl)
  (hlen:len=l.length:=by first|rfl|assumption|omega) (hb:l.length<1000000000000:=by omega) (hby:Nat.ble by_ 128=true:=by rfl):
  Ac P n ⟨d,.call ⟨.builtin .append, #[x,y], #[t,t']⟩,ty,pos',af,g⟩ L A (fun r A'=> ∃a' cap',r=sl a' (l.length+1) cap'/\A'=Aa a' cap' e et f (l++ [u])::R):=by
 have hby':=Nat.le_of_ble_eq_true hby
 have hsrc:cJ P A e [u].length (.slice (some ⟨b,0,none⟩) 1 1) ([u].flatMap f):=by
  have hxe:xs.length=e:=by rw [hu];exact hE1.len u
  exact Sz (m:=1) hA (by omega) (by simp only [List.drop_zero,Nat.one_mul];rw [List.take_of_length_le (by omega),hu];simp)
 have hmul:(l.length+1)*by_<=140737488355328:=Nat.le_trans (Nat.mul_le_mul (show l.length+1<=1000000000000 by omega) hby') (by decide)
 have h:=OZ (P:=P) (n:=n) (L:=L) (A:=A) (d:=d) (ty:=ty) (pos':=pos') (af:=af) (g:=g) (f:=f) (l:=l) [u] hx hy ht ht' rfl hel hE1.len hsrc hE hlen (fun w hw v hv=>hE1.one w v hv) (by simpa using hmul) (by simp [maxLen];omega)
 simpa only [List.length_append,List.length_cons,List.length_nil,Nat.zero_add] using h
theorem E6{α:Type}{t t' et:TypeId}{e by_:Nat}{x y:Operand}{a:Option Nat}{cap len:Nat}{f:α ->List Value}{l l2:List α}{v:Value}{ao:Option Addr}{cap2:Nat}{B R:List Ao}(hE1:Enc f e)(hx:ev L x=some (sl a len cap))(hy:ev L y=some v)(ht:P.underlying t=some (.slice et))(ht':P.underlying t'=some (.slice et))
  (hel:el P et=some (e,by_)) (hS:Sv B v e f l2 ao cap2:=by assumption) (hB:Sub A B:=by repeat (first|with_reducible exact Sub.refl|with_reducible exact Sub.nil|with_reducible refine Sub.cons (by repeat (first|with_reducible exact Ext.here|with_reducible apply Ext.there)) ?_|with_reducible refine Sub.tail ?_))
  (hE:Ext A (Aa a cap e et f l) R:=by repeat (first|with_reducible exact Ext.here|with_reducible apply Ext.there)) (hlen:len=l.length:=by first|rfl|assumption|omega) (hb:l.length+l2.length<1000000000000:=by omega) (hby:Nat.ble by_ 128=true:=by rfl):
  Ac P n ⟨d,.call ⟨.builtin .append, #[x,y], #[t,t']⟩,ty,pos',af,g⟩ L A (fun r A'=> ∃a' cap',r=sl a' (l.length+l2.length) cap'/\A'=Aa a' cap' e et f (l++l2)::R):=by
 have hby':=Nat.le_of_ble_eq_true hby
 have hmul:(l.length+l2.length)*by_<=140737488355328:=Nat.le_trans (Nat.mul_le_mul (show l.length+l2.length<=1000000000000 by omega) hby') (by decide)
 have h:=OZ (P:=P) (n:=n) (L:=L) (A:=A) (d:=d) (ty:=ty) (pos':=pos') (af:=af) (g:=g) (f:=f) (l:=l) l2 hx hy ht ht' rfl hel hE1.len (Pl (hS.mono hB)) hE hlen (fun w hw v hv=>hE1.one w v hv) hmul (by simp [maxLen];omega)
 simpa only [List.length_append] using h
end
theorem CJ{P:Program}{m:Md}{ops:Array Oper}{Q:Exit ->Act ->World ->Prop}{w0:World}{n:Nat}{rest:List Oper}{L:List (Nat × Value)}{A:List Ao}{α:Type}(f:α ->List Value)(e:Nat)(T:TypeId)(k:WL P m ops Q w0 n rest L (Aa none 0 e T f ([]:List α)::A)):WL P m ops Q w0 n rest L A:=
 ER (fun _ h=>BO h) k
theorem BM{α:Type}{a:Option Nat}{cap e:Nat}{T:TypeId}{f:α ->List Value}{l:List α}(hE1:Enc f e)(hn:a=none ->l= [])(hc:l.length<=cap):Sv [Aa a cap e T f l] (sl a l.length cap) e f l (a.map fun g=>⟨g,0,none⟩) cap:=Sy Has.here hE1.len hn hc
theorem B1{α:Type}{a:Option Nat}{cap e:Nat}{T:TypeId}{f:α ->List Value}{l:List α}{A:List Ao}{w:World}(h:Has A (Aa a cap e T f l))(hs:sat w A):(a=none ->l= [])/\l.length<=cap:=by
 refine⟨fun ha=>?_,MB h hs⟩
 subst ha;exact(FX h hs).2
end Go.SL
/-
 '==' of structs and arrays:part by part. (Conditions:none;generic over the program.)
-/
namespace Go.SL
open Go.RowKit
def cP(P:Program)(dd:Nat)(t:TypeId)(a b:Value)(r:Bool):Prop:= ∀w,(Op.equalIn dd t a b).run P w= .ok r w
def dH(P:Program)(t:TypeId):Option (List (Nat × TypeId)):=
 match P.underlying t with
 |some (.struct fs)=>if fs.all (·.name != "_") && !P.stoodInHeld t && !P.eqGuardType P.depth t then some (fs.toList.map fun f=>(f.offset,f.type)) else none
 |_=>none
def aj(P:Program)(t:TypeId):Option (Nat × TypeId):=
 match P.underlying t with
 |some (.array n e)=>match P.underlying e,P.info? e with
  |some (.int _),some i=>if i.size=1/\P.eqGuardType P.depth t=false then some (n,e) else none
  |_,_=>none
 |_=>none
section
variable {P : Program} {d : Nat} {t : TypeId}
theorem DN{q k:IntKind}(hu:P.underlying t=some (.int q))(i j:Int):cP P (d+1) t (.int k i) (.int k j) (decide (i=j)):=fun w=>by
 simp only [Op.equalIn,Sem.run_bind,BJ hu,Result.andThen_ok,if_true,Sem.run_pure]
 congr 1
inductive EqL (P:Program) (d:Nat) (xs ys:List Value):List (Nat × TypeId) ->Bool ->Prop
 |nil:EqL P d xs ys [] true
 |sc {o:Nat} {u:TypeId} {l:List (Nat × TypeId)} {a b:Value} {r r':Bool} (ht:tk P u=some none) (ha:xs[o]? =some a) (hb:ys[o]? =some b) (h:cP P d u a b r) (hl:EqL P d xs ys l r'):EqL P d xs ys ((o,u)::l) (r && r')
 |ag {o k:Nat} {u:TypeId} {l:List (Nat × TypeId)} {as bs:List Value} {r r':Bool} (ht:tk P u=some (some k)) (ha:(xs.drop o).take k=as) (hb:(ys.drop o).take k=bs) (h:cP P d u (.agg as.toArray) (.agg bs.toArray) r) (hl:EqL P d xs ys l r'):EqL P d xs ys ((o,u)::l) (r && r')
theorem F9{u:TypeId}{xs:List Value}{o:Nat}{a:Value}(ht:tk P u=some none)(ha:xs[o]? =some a)(w:World):(part u xs.toArray o).run P w= .ok a w:=by
 simp [part,bQ ht,ha]
theorem IOx{u:TypeId}{xs as:List Value}{o k:Nat}(ht:tk P u=some (some k))(ha:(xs.drop o).take k=as)(w:World):(part u xs.toArray o).run P w= .ok (.agg as.toArray) w:=by
 simp only [part,Sem.run_bind,(LJ ht).1,Result.andThen_ok,if_true,CY (LJ ht).2,Sem.run_pure]
 congr 2
 apply Array.ext'
 rw [<-ha];simp [List.take_drop]
theorem ZF{xs ys:List Value}{l:List (Nat × TypeId)}{r:Bool}(h:EqL P d xs ys l r): ∀(fs:List Field),(∀f∈fs,f.name≠ "_") → fs.map (fun f=>(f.offset,f.type))=l → ∀w,(Op.eqFields d xs.toArray ys.toArray fs).run P w= .ok r w:=by
 induction h with
 |nil=>intro fs _ hl w;simp at hl;subst hl;simp [Op.eqFields]
 |sc ht ha hb h hl ih=>
  intro fs hn he w
  cases fs with
  |nil=>simp at he
  |cons f fs=>
   simp only [List.map_cons,List.cons.injEq,Prod.mk.injEq] at he
   obtain⟨⟨rfl,rfl⟩,he⟩:=he
   simp only [Op.eqFields,hn f (by simp),ne_eq,not_false_eq_true,if_true,Sem.run_bind,F9 ht ha,F9 ht hb,h w,Result.andThen_ok]
   rename_i r r'
   cases r
   ·simp
   ·simpa using ih fs (fun g hg=>hn g (by simp [hg])) he w
 |ag ht ha hb h hl ih=>
  intro fs hn he w
  cases fs with
  |nil=>simp at he
  |cons f fs=>
   simp only [List.map_cons,List.cons.injEq,Prod.mk.injEq] at he
   obtain⟨⟨rfl,rfl⟩,he⟩:=he
   simp only [Op.eqFields,hn f (by simp),ne_eq,not_false_eq_true,if_true,Sem.run_bind,IOx ht ha,IOx ht hb,h w,Result.andThen_ok]
   rename_i r r'
   cases r
   ·simp
   ·simpa using ih fs (fun g hg=>hn g (by simp [hg])) he w
theorem NC{l:List (Nat × TypeId)}(h:dH P t=some l): ∃fs,P.underlying t=some (.struct fs) ∧ (∀f∈fs.toList,f.name≠ "_") ∧ P.stoodInHeld t=false ∧ P.eqGuardType P.depth t=false ∧ fs.toList.map (fun f=>(f.offset,f.type))=l:=by
 unfold dH at h
 split at h
 ·rename_i fs hu
  split at h
  ·rename_i hc
   simp only [Bool.and_eq_true,Bool.not_eq_true',Array.all_eq_true_iff_forall_mem,bne_iff_ne,ne_eq] at hc
   exact⟨fs,hu,fun f hf=>hc.1.1 f (by simpa using hf),hc.1.2,hc.2,by simpa using h⟩
  ·cases h
 ·cases h
theorem Jq{l:List (Nat × TypeId)}{xs ys:List Value}{r:Bool}(h:dH P t=some l)(hl:EqL P d xs ys l r):cP P (d+1) t (.agg xs.toArray) (.agg ys.toArray) r:=fun w=>by
 obtain⟨fs,hu,hn,hs,_,hm⟩:=NC h
 have hfs:P.fieldsOf t=fs:=by simp [Program.fieldsOf,hu]
 rw [run_equalIn_struct w d t _ _ (by rw [hfs];exact hu) hs,hfs]
 exact ZF hl fs.toList hn hm w
theorem Ka{n:Nat}{e:TypeId}(h:aj P t=some (n,e)): ∃q i,P.underlying t=some (.array n e)/\P.underlying e=some (.int q)/\P.info? e=some i/\i.size=1/\P.eqGuardType P.depth t=false:=by
 unfold aj at h
 split at h
 ·rename_i n' e' hu
  split at h
  ·rename_i q i hq hi
   split at h
   ·rename_i hc
    simp only [Option.some.injEq,Prod.mk.injEq] at h
    obtain⟨rfl,rfl⟩:=h
    exact⟨q,i,hu,hq,hi,hc.1,hc.2⟩
   ·cases h
  ·cases h
 ·cases h
theorem HY{e:TypeId}{q k:IntKind}{l m:List Int}(he:P.underlying e=some (.int q))(ht:tk P e=some none)(hlm:l.length=m.length): ∀(j i:Nat),i+j=l.length -> ∀w,(Op.eqItems (d+1) e 1 (l.map (Value.int k)).toArray (m.map (Value.int k)).toArray (List.range' i j)).run P w= .ok (decide (l.drop i=m.drop i)) w
 |0,i,hi,w=>by
  rw [List.drop_of_length_le (by omega),List.drop_of_length_le (by omega)]
  simp [Op.eqItems]
 |j+1,i,hi,w=>by
  have h1:i<l.length:=by omega
  have h2:i<m.length:=by omega
  rw [List.range'_succ]
  have e1:=DN (P:=P) (d:=d) (k:=k) he l[i] m[i] w
  have p1:=F9 (P:=P) (xs:=l.map (Value.int k)) (o:=i*1) (a:=.int k l[i]) ht (by simp [h1]) w
  have p2:=F9 (P:=P) (xs:=m.map (Value.int k)) (o:=i*1) (a:=.int k m[i]) ht (by simp [h2]) w
  simp only [Op.eqItems,Sem.run_bind,p1,p2,e1,Result.andThen_ok]
  have ih:=HY (k:=k) he ht hlm j (i+1) (by omega) w
  rw [List.drop_eq_getElem_cons h1,List.drop_eq_getElem_cons h2]
  by_cases h:l[i]=m[i]
  ·simp only [h,decide_true,Bool.not_true,Bool.false_eq_true,if_false,ih,List.cons.injEq,true_and]
  ·simp only [h,decide_false,Bool.not_false,if_true,Sem.run_pure,List.cons.injEq,false_and]
theorem Nh{n:Nat}{e:TypeId}{k:IntKind}{l m:List Int}(h:aj P t=some (n,e))(hl:l.length=n)(hm:m.length=n):cP P (d+2) t (.agg (l.map (Value.int k)).toArray) (.agg (m.map (Value.int k)).toArray) (decide (l=m)):=fun w=>by
 obtain⟨q,i,hu,hq,hi,hs,_⟩:=Ka h
 rw [run_equalIn_array w (d+1) _ _ hu hi]
 have hc:P.cellsOf e=1:=by unfold Program.cellsOf;rw [hi];simpa using hs
 have ht:tk P e=some none:=by unfold tk;rw [hq];simp [hi]
 rw [hc,List.range_eq_range',HY (k:=k) hq ht (by omega) n 0 (by omega) w]
 simp
variable {n : Nat} {L : List (Nat × Value)} {A : List Ao} {dd : Option Tmp} {ty t' : TypeId} {DJ : String} {af : Array Edge} {g : Option (Nat × Bool)} {x y : Operand}
theorem OB{_u _v:Value}{op:BinOp}{as bs:Array Value}(hg:P.eqGuardType P.depth t=false)(w:World):(eqGuard op t x y (.agg as) (.agg bs)).run P w= .ok () w:=by
 cases op <;>simp [eqGuard,hg,Sem.run_bind]
theorem Yk{as bs:Array Value}{r:Bool}(hx:ev L x=some (.agg as))(hy:ev L y=some (.agg bs))(hg:P.eqGuardType P.depth t=false)(h:cP P 10000 t (.agg as) (.agg bs) r):Rd P n ⟨dd,.binOp .eql t x y t',ty,DJ,af,g⟩ L A (.bool r):=
 OW hx hy (fun w=>OB (_u:=.agg as) (_v:=.agg bs) hg w) fun w=>by
  have:binOp .eql t (.agg as) (.agg bs)=(do pure (.bool (<-Op.equal t (.agg as) (.agg bs)))):=rfl
  rw [this];simp only [Op.equal,Op.maxDepth,Sem.run_bind,h w,Result.andThen_ok,Sem.run_pure]
theorem U4{as bs:Array Value}{r:Bool}(hx:ev L x=some (.agg as))(hy:ev L y=some (.agg bs))(hg:P.eqGuardType P.depth t=false)(h:cP P 10000 t (.agg as) (.agg bs) r):Rd P n ⟨dd,.binOp .neq t x y t',ty,DJ,af,g⟩ L A (.bool (!r)):=
 cK hx hy (fun w=>OB (_u:=.agg as) (_v:=.agg bs) hg w) fun w=>by
  have:binOp .neq t (.agg as) (.agg bs)=(do pure (.bool (!(<-Op.equal t (.agg as) (.agg bs))))):=rfl
  rw [this];simp only [Op.equal,Op.maxDepth,Sem.run_bind,h w,Result.andThen_ok,Sem.run_pure]
theorem eY{m:Nat}{e:TypeId}{k:IntKind}{l l':List Int}{as bs:Array Value}(hx:ev L x=some (.agg as))(hy:ev L y=some (.agg bs))(h:aj P t=some (m,e))(ha:as=(l.map (Value.int k)).toArray:=by rfl)(hb:bs=(l'.map (Value.int k)).toArray:=by rfl)(hl:l.length=m:=by first|rfl|assumption|simp)(hm:l'.length=m:=by first|rfl|assumption|simp):
  Rd P n ⟨dd,.binOp .eql t x y t',ty,DJ,af,g⟩ L A (.bool (decide (l=l'))):=by
 subst ha;subst hb
 obtain⟨_,_,_,_,_,_,hg⟩:=Ka h
 exact Yk hx hy hg (Nh (d:=9998) h hl hm)
theorem eT{m:Nat}{e:TypeId}{k:IntKind}{l l':List Int}{as bs:Array Value}(hx:ev L x=some (.agg as))(hy:ev L y=some (.agg bs))(h:aj P t=some (m,e))(ha:as=(l.map (Value.int k)).toArray:=by rfl)(hb:bs=(l'.map (Value.int k)).toArray:=by rfl)(hl:l.length=m:=by first|rfl|assumption|simp)(hm:l'.length=m:=by first|rfl|assumption|simp):
  Rd P n ⟨dd,.binOp .neq t x y t',ty,DJ,af,g⟩ L A (.bool (!decide (l=l'))):=by
 subst ha;subst hb
 obtain⟨_,_,_,_,_,_,hg⟩:=Ka h
 exact U4 hx hy hg (Nh (d:=9998) h hl hm)
theorem Na{l:List (Nat × TypeId)}{xs ys:List Value}{r:Bool}(hx:ev L x=some (.agg xs.toArray))(hy:ev L y=some (.agg ys.toArray))(h:dH P t=some l)(hl:EqL P 9999 xs ys l r):
  Rd P n ⟨dd,.binOp .eql t x y t',ty,DJ,af,g⟩ L A (.bool r):=by
 obtain⟨_,_,_,_,hg,_⟩:=NC h
 exact Yk hx hy hg (Jq h hl)
theorem NX{l:List (Nat × TypeId)}{xs ys:List Value}{r:Bool}(hx:ev L x=some (.agg xs.toArray))(hy:ev L y=some (.agg ys.toArray))(h:dH P t=some l)(hl:EqL P 9999 xs ys l r):
  Rd P n ⟨dd,.binOp .neq t x y t',ty,DJ,af,g⟩ L A (.bool (!r)):=by
 obtain⟨_,_,_,_,hg,_⟩:=NC h
 exact U4 hx hy hg (Jq h hl)
end
end Go.SL
/-
 Conversions between whole numbers;make. (Conditions:none;generic over the program.)
-/
namespace Go.SL
open Go.RowKit
def Zo(P:Program)(s t:TypeId):Option IntKind:=match P.underlying s,P.underlying t with
 |some _,some (.int k)=>some k
 |_,_=>none
section
variable {P : Program} {n : Nat} {L : List (Nat × Value)} {A : List Ao} {d : Option Tmp} {ty : TypeId} {pos' : String} {af : Array Edge} {g : Option (Nat × Bool)}
theorem Kc{s t:TypeId}{x:Operand}{k k':IntKind}{i r:Int}(hx:ev L x=some (.int k i))(h:Zo P s t=some k')(hr:k'.wrap i=r):Rd P n ⟨d,.convert s t x,ty,pos',af,g⟩ L A (.int k' r):=fun a w hf _=>by
 unfold Zo at h
 split at h
 ·rename_i D q hs ht
  simp only [Option.some.injEq] at h
  subst h;subst hr
  simp only [execOp,hf.eval hx,convert,Sem.run_bind,BJ hs,BJ ht,Result.andThen_ok,Conv.intToInt,Sem.run_pure]
 ·cases h
theorem Yl{s t:TypeId}{x:Operand}{k:IntKind}{i:Nat}(hx:ev L x=some (.int k (i:Int)))(h:Zo P s t=some .i64)(hi:i<9223372036854775808:=by omega):Rd P n ⟨d,.convert s t x,ty,pos',af,g⟩ L A (.int .i64 (i:Int)):=
 Kc hx h (JV rfl (by omega) (by omega))
end
end Go.SL
/-
 Lists written out,and what is looked up in a map of numbers where it is known what stands there. (Conditions:none;generic over the program.)
-/
namespace Go.SL
open Go.RowKit
section
variable {P : Program} {n : Nat} {L : List (Nat × Value)} {A : List Ao} {d : Option Tmp} {ty : TypeId} {pos' : String} {af : Array Edge} {g : Option (Nat × Bool)}
theorem Ac.mono{o:Oper}{R R':Value ->List Ao ->Prop}(h:Ac P n o L A R)(hR: ∀v A',R v A' -> ∃A'',R' v A''/\ ∀w,sat w A' ->sat w A''):Ac P n o L A R':=fun r0 a w K Q hf hs hk=>
 h r0 a w K Q hf hs fun v A' w' hv hs' hkk=>let ⟨A'',h1,h2⟩:=hR v A' hv;hk v A'' w' h1 (h2 w' hs') hkk
theorem OP{α:Type}{b e:Nat}{T:TypeId}{f:α ->List Value}{l:List α}{R:List Ao}{w:World}(hf: ∀x,(f x).length=e)(hm:l.length<=maxLen)(h:sat w (cl b T (l.flatMap f)::R)):sat w (Aa (some b) l.length e T f l::R):=by
 unfold Aa
 refine E3.2 ⟨l.flatMap f,Co.2 ⟨⟨hf,Ec hf l,Nat.le_refl _,hm,?_⟩,h⟩⟩
 rw [<-Ec hf l,List.take_length]
theorem Ys{α:Type}{t et:TypeId}{k:Nat}{len:Nat}{zs bs:List Value}{qs:Array (Nat × Operand)}{parts:List (Nat × Value)}{f:α ->List Value}(l:List α)(hE:Enc f k)(hu:P.underlying t=some (.slice et))(hz:zr P et=some zs)(hk:sz P et=some k)(hq:bj L qs.toList=some parts)
  (hb:((Array.range (len*k)).map (zs.toArray[· % zs.toArray.size]!)).toList=bs) (hf:Er ((List.range len).map fun i=>(i*k,k)) parts bs=some (l.flatMap f)) (hs:Nat.ble (len*k) 16777216=true) (hl:l.length=len) (hm:Nat.ble len maxLen=true):
  Ac P n ⟨d,.buildSlice t len qs,ty,pos',af,g⟩ L A (fun v A'=> ∃b,v=sl (some b) len len/\A'=Aa (some b) len k et f l::A):=
 (JU hu hz hk hq hb hf hs).mono fun v A' ⟨b,hv,hA⟩=>⟨_,⟨b,hv,rfl⟩,fun w h=>by
  subst hA;subst hl
  exact OP hE.len (Nat.le_of_ble_eq_true hm) h⟩
end
end Go.SL
/-
 Words:numbers without a sign as bit vectors;arrays of words in memory and as values. (Conditions:none;generic over the program.)
-/
namespace Go.SL
open Go.RowKit
def uk(k:IntKind)(w:Nat):Prop:=k.bits=w/\k.signed=false
theorem uk8:uk .u8 8:=⟨rfl,rfl⟩
theorem uk32:uk .u32 32:=⟨rfl,rfl⟩
theorem ep:uk .u64 64:=⟨rfl,rfl⟩
theorem MK{k:IntKind}{w:Nat}(h:uk k w)(i:Int):k.wrap i=((BitVec.ofInt w i).toNat:Int):=by
 unfold IntKind.wrap
 rw [h.1,h.2,BitVec.toNat_ofInt]
 have h0:(0:Int)<=i % (2 ^ w:Nat):=Int.emod_nonneg _ (by have:=Nat.two_pow_pos w;omega)
 simp only [Bool.false_and,Bool.false_eq_true,if_false]
 rw [Int.toNat_of_nonneg h0]
 push_cast
 rfl
theorem Hd{w:Nat}(a:BitVec w):BitVec.ofInt w (a.toNat:Int)=a:=by rw [BitVec.ofInt_natCast,BitVec.ofNat_toNat,BitVec.setWidth_eq]
theorem Pz{k:IntKind}{w:Nat}(h:uk k w)(a:BitVec w):k.wrap (a.toNat:Int)=(a.toNat:Int):=by rw [MK h,Hd]
theorem Kf{i:Nat}(h:i<18446744073709551616):IntKind.u64.wrap (i:Int)=(i:Int):=by rw [MK ep,BitVec.ofInt_natCast,BitVec.toNat_ofNat,Nat.mod_eq_of_lt (by simpa using h)]
def eU(k:IntKind){w:Nat}(x:BitVec w):List Value:= [.int k (x.toNat:Int)]
theorem Em(k:IntKind){w:Nat} :Enc (eU k (w:=w)) 1:=⟨fun _=>rfl,fun x v hv=>by simp [eU] at hv;subst hv;rfl⟩
section
variable {P : Program} {n : Nat} {L : List (Nat × Value)} {A : List Ao} {d : Option Tmp} {ty : TypeId} {pos' : String} {af : Array Edge} {g : Option (Nat × Bool)} {t t' : TypeId} {x y : Operand} {k : IntKind} {w : Nat}
theorem SN{a b:BitVec w} :BitVec.ofInt w ((a.toNat:Int) -b.toNat)=a -b:=by
 have h:=BitVec.ofInt_add (n:=w) ((a.toNat:Int) -b.toNat) b.toNat
 rw [Int.sub_add_cancel,Hd,Hd] at h
 generalize BitVec.ofInt w ((a.toNat:Int) -b.toNat)=q at*
 rw [h,BitVec.add_sub_cancel]
theorem bA{a b:BitVec w}(hx:ev L x=some (.int k (a.toNat:Int)))(hy:ev L y=some (.int k (b.toNat:Int)))(h:uk k w:=by exact⟨rfl,rfl⟩):Rd P n ⟨d,.binOp .sub t x y t',ty,pos',af,g⟩ L A (.int k ((a -b).toNat:Int)):=
 GY hx hy (by rw [MK h,SN])
theorem Pm{a b:BitVec w}(hx:ev L x=some (.int k (a.toNat:Int)))(hy:ev L y=some (.int k (b.toNat:Int)))(h:uk k w:=by exact⟨rfl,rfl⟩):Rd P n ⟨d,.binOp .xor t x y t',ty,pos',af,g⟩ L A (.int k ((a ^^^ b).toNat:Int)):=
 F8 hx hy fun W=>by
  obtain⟨rfl,hs⟩:=h
  simp only [binOp,if_true,ne_eq,not_true_eq_false,if_false,Op.intBits,Hd,Pz ⟨rfl,hs⟩,Sem.run_pure]
theorem bI{a b:BitVec w}(hx:ev L x=some (.int k (a.toNat:Int)))(hy:ev L y=some (.int k (b.toNat:Int)))(h:uk k w:=by exact⟨rfl,rfl⟩):Rd P n ⟨d,.binOp .and t x y t',ty,pos',af,g⟩ L A (.int k ((a &&& b).toNat:Int)):=
 F8 hx hy fun W=>by
  obtain⟨rfl,hs⟩:=h
  simp only [binOp,if_true,ne_eq,not_true_eq_false,if_false,Op.intBits,Hd,Pz ⟨rfl,hs⟩,Sem.run_pure]
theorem Pn{a:BitVec w}{yk:IntKind}{j:Nat}(hx:ev L x=some (.int k (a.toNat:Int)))(hy:ev L y=some (.int yk (j:Int)))(h:uk k w:=by exact⟨rfl,rfl⟩):Rd P n ⟨d,.binOp .shl t x y t',ty,pos',af,g⟩ L A (.int k ((a <<<j).toNat:Int)):=
 F8 hx hy fun W=>by
  have h0: ¬((j:Int)<0):=by omega
  have e:k.wrap ((a.toNat:Int)*2 ^ (min j k.bits))=((a <<<j).toNat:Int):=by
   rw [MK h]
   congr 2
   rw [h.1]
   have h1:((a.toNat:Int)*2 ^ (min j w))=((a.toNat <<<(min j w):Nat):Int):=by rw [Nat.shiftLeft_eq];push_cast;rfl
   rw [h1,BitVec.ofInt_natCast]
   apply BitVec.eq_of_toNat_eq
   rw [BitVec.toNat_ofNat,BitVec.toNat_shiftLeft]
   by_cases hj:j<=w
   ·rw [Nat.min_eq_left hj]
   ·rw [Nat.min_eq_right (by omega),Nat.shiftLeft_eq,Nat.shiftLeft_eq,Nat.mul_mod_left,show j=w+(j -w) from by omega,Nat.pow_add,<-Nat.mul_assoc,Nat.mul_right_comm,Nat.mul_mod_left]
  simp only [binOp,Op.shift,h0,if_false,Int.toNat_natCast,e,Sem.run_pure]
theorem bB{a:BitVec w}{yk:IntKind}{j:Nat}(hx:ev L x=some (.int k (a.toNat:Int)))(hy:ev L y=some (.int yk (j:Int)))(h:uk k w:=by exact⟨rfl,rfl⟩):Rd P n ⟨d,.binOp .shr t x y t',ty,pos',af,g⟩ L A (.int k ((a >>>j).toNat:Int)):=
 F8 hx hy fun W=>by
  have h0: ¬((j:Int)<0):=by omega
  have e:(a.toNat:Int).fdiv (2 ^ (min j k.bits))=((a >>>j).toNat:Int):=by
   rw [h.1,BitVec.toNat_ushiftRight,Nat.shiftRight_eq_div_pow]
   have h1:((2:Int) ^ (min j w))=((2 ^ (min j w):Nat):Int):=by push_cast;rfl
   rw [h1,Int.fdiv_eq_ediv_of_nonneg _ (Int.natCast_nonneg _),<-Int.natCast_ediv]
   congr 1
   by_cases hj:j<=w
   ·rw [Nat.min_eq_left hj]
   ·have h2:=a.isLt
    rw [Nat.min_eq_right (by omega),Nat.div_eq_of_lt h2,Nat.div_eq_of_lt (Nat.lt_of_lt_of_le h2 (Nat.pow_le_pow_right (by omega) (by omega)))]
  simp only [binOp,Op.shift,h0,if_false,Int.toNat_natCast,e,Sem.run_pure]
theorem LI{s t:TypeId}{k':IntKind}{w':Nat}{i:Nat}(hx:ev L x=some (.int k (i:Int)))(h:Zo P s t=some k')(h':uk k' w':=by exact⟨rfl,rfl⟩):Rd P n ⟨d,.convert s t x,ty,pos',af,g⟩ L A (.int k' ((BitVec.ofNat w' i).toNat:Int)):=
 Kc hx h (by rw [MK h',BitVec.ofInt_natCast])
theorem DL{a b:BitVec w}(hx:ev L x=some (.int k (a.toNat:Int)))(hy:ev L y=some (.int k (b.toNat:Int))):Rd P n ⟨d,.binOp .eql t x y t',ty,pos',af,g⟩ L A (.bool (decide (a=b))):=by
 have:=Ab (P:=P) (n:=n) (A:=A) (d:=d) (ty:=ty) (DJ:=pos') (af:=af) (g:=g) (t:=t) (t':=t') hx hy
 rwa [Eo (q:=a=b) BitVec.toNat_eq.symm] at this
theorem GZ{a b:BitVec w}(hx:ev L x=some (.int k (a.toNat:Int)))(hy:ev L y=some (.int k (b.toNat:Int))):Rd P n ⟨d,.binOp .neq t x y t',ty,pos',af,g⟩ L A (.bool (decide (a≠b))):=by
 have:=Bj (P:=P) (n:=n) (A:=A) (d:=d) (ty:=ty) (DJ:=pos') (af:=af) (g:=g) (t:=t) (t':=t') hx hy
 rwa [Eo (q:=a≠b) (not_congr BitVec.toNat_eq.symm)] at this
def aU(k:IntKind){w:Nat}(l:List (BitVec w)):Value:=.agg (l.flatMap (eU k)).toArray
theorem YQ(l:List (BitVec w)):(aU k l).cells=(l.flatMap (eU k)).toArray:=rfl
theorem C7(l:List (BitVec w)):(l.flatMap (eU k)).length=l.length:=by rw [Ec (Em k).len];simp
theorem Xx{α:Type}{f:α ->List Value}{l:List α}{cur:List Value}{e m:Nat}(hf: ∀x,(f x).length=e)(h:cur.take (l.length*e)=l.flatMap f)(hm:m=l.length*e):(cur.drop 0).take m=l.flatMap f:=by subst hm;simpa using h
theorem NY{gb cap m:Nat}{T:TypeId}{l:List (BitVec w)}(hx:ev L x=some (.pointer (some ⟨gb,0,none⟩)))(ht:tk P t=some (some m))
  (hA:Has A (Aa (some gb) cap 1 T (eU k) l):=by repeat (first|with_reducible exact Has.here|with_reducible refine Has.there ?_)) (hm:l.length=m:=by first|with_reducible assumption|omega|(simp only [List.length_replicate] <;>omega)):Rd P n ⟨d,.load t x,ty,pos',af,g⟩ L A (aU k l):=fun ac W hf hs=>by
 obtain⟨cur,⟨hfe,hcl,hle,_,htk⟩,hb⟩:=Ij hA hs
 have:=EZ (P:=P) ht (i:=0) hb (by simp;omega)
 simp only [execOp,hf.eval hx,Instr.loadAt,Instr.sureAddr,Sem.run_bind,Sem.run_pure,Result.andThen_ok,this]
 have h2:=Xx (m:=m) hfe htk (by omega)
 unfold aU
 simp [<-h2]
theorem Pu{l:List (BitVec w)}(hx:ev L x=some (aU k l))(hm:l.length<=1000000:=by omega):Ac P n ⟨d,.box t x,ty,pos',af,g⟩ L A (fun r A'=> ∃b,r= .pointer (some ⟨b,0,none⟩)/\A'=Aa (some b) l.length 1 t (eU k) l::A):=
 (Ay (t:=t) (xs:=l.flatMap (eU k)) hx (YQ l)).mono fun v A' ⟨b,hv,hA⟩=>⟨_,⟨b,hv,rfl⟩,fun W h=>by
  subst hA
  exact OP (Em k).len (by simp [maxLen];omega) h⟩
theorem Vf{gb cap off i:Nat}{T:TypeId}{l:List (BitVec w)}{R:List Ao}{a:BitVec w}(hx:ev L x=some (.pointer (some ⟨gb,off,none⟩)))(hy:ev L y=some (.int k (a.toNat:Int)))(ht:sz P t=some 1)
  (hE:Ext A (Aa (some gb) cap 1 T (eU k) l) R:=by repeat (first|with_reducible exact Ext.here|with_reducible apply Ext.there)) (hoff:off=i*1:=by rfl) (hi:i<l.length:=by first|with_reducible assumption|omega|(simp only [List.length_replicate] <;>omega)):
  Ac P n ⟨none,.store t x y,ty,pos',af,g⟩ L A (fun _ A'=>A'=Aa (some gb) cap 1 T (eU k) (l.set i a)::R):=
 Aq (i:=i) (j:=0) (u:=l.getD i 0#w) (f:=eU k) a hx hy ht hE hoff (by rw [List.getD_eq_getElem?_getD,List.getElem?_eq_getElem hi];rfl) (by omega) rfl rfl
theorem YP(l:List (BitVec w)):aU k l= .agg ((l.map fun x=>(x.toNat:Int)).map (Value.int k)).toArray:=by
 unfold aU eU
 congr 2
 induction l with
 |nil=>rfl
 |cons x r ih=>simp [List.flatMap_cons,ih]
theorem Ww{l l':List (BitVec w)} :(l.map fun x=>(x.toNat:Int))=(l'.map fun x=>(x.toNat:Int))<->l=l':=
 ⟨fun h=>List.map_inj_right (f:=fun x:BitVec w=>(x.toNat:Int)) (fun a b e=>BitVec.eq_of_toNat_eq (by omega)) |>.1 h,fun h=>by rw [h]⟩
theorem Pp{m:Nat}{e:TypeId}{l l':List (BitVec w)}(hx:ev L x=some (aU k l))(hy:ev L y=some (aU k l'))(h:aj P t=some (m,e))(hl:l.length=m:=by first|with_reducible assumption|omega|(simp only [List.length_replicate] <;>omega))(hm:l'.length=m:=by first|with_reducible assumption|omega|(simp only [List.length_replicate] <;>omega)):Rd P n ⟨d,.binOp .eql t x y t',ty,pos',af,g⟩ L A (.bool (decide (l=l'))):=by
 rw [YP] at hx hy
 have:=eY (P:=P) (n:=n) (A:=A) (dd:=d) (ty:=ty) (DJ:=pos') (af:=af) (g:=g) (t':=t') hx hy h rfl rfl (by simpa using hl) (by simpa using hm)
 rwa [Eo Ww] at this
theorem Yj{m:Nat}{e:TypeId}{l l':List (BitVec w)}(hx:ev L x=some (aU k l))(hy:ev L y=some (aU k l'))(h:aj P t=some (m,e))(hl:l.length=m:=by first|with_reducible assumption|omega|(simp only [List.length_replicate] <;>omega))(hm:l'.length=m:=by first|with_reducible assumption|omega|(simp only [List.length_replicate] <;>omega)):Rd P n ⟨d,.binOp .neq t x y t',ty,pos',af,g⟩ L A (.bool (!decide (l=l'))):=by
 rw [YP] at hx hy
 have:=eT (P:=P) (n:=n) (A:=A) (dd:=d) (ty:=ty) (DJ:=pos') (af:=af) (g:=g) (t':=t') hx hy h rfl rfl (by simpa using hl) (by simpa using hm)
 rwa [Eo Ww] at this
end
def it{α:Type}(f:Nat ->α ->α):Nat ->α ->α
 |0,x=>x
 |n+1,x=>f n (it f n x)
end Go.SL
namespace Go.SL
theorem dz:(∀(p:Prop) [Decidable p],(decide p=true)=p)/\(∀(p:Prop) [Decidable p],(decide p=false)<-> ¬p)/\(∀(b:Bool),((!b)=true)=(b=false))/\(∀(b:Bool),((!b)=false)=(b=true))/\(∀(b:Bool),(¬(b=true))=(b=false))/\(∀(b:Bool),(¬(b=false))=(b=true))/\(∀(a b:Int),¬a<b<->b<=a)/\(∀(a b:Int),¬a<=b<->b<a)/\(∀(a b:Nat),¬a<b<->b<=a)/\(∀(a b:Nat),¬a<=b<->b<a)/\(∀(p:Prop) [Decidable p],¬¬p<->p)/\(∀(α:Type) (a b:α),(a≠b)<-> ¬(a=b)):=
 ⟨fun _=>decide_eq_true_eq,fun _=>decide_eq_false_iff_not,Bool.not_eq_true',Bool.not_eq_false',Bool.not_eq_true,Bool.not_eq_false,fun _ _=>Int.not_lt,fun _ _=>Int.not_le,fun _ _=>Nat.not_lt,fun _ _=>Nat.not_le,fun _=>Decidable.not_not,fun _ _ _=>Iff.rfl⟩
theorem Av{m:Md}{Q:Act ->World ->Prop}{w0:World}{n:Nat}{L L':List (Nat × Value)}{A A':List Ao}(k:Ps m Q w0 n L' A')(hl:Wk L L':=by(try simp only [List.cons_append,List.nil_append]);repeat (first|with_reducible exact Wk.nil|refine Wk.cons (by first|rfl|(simp only [List.length_append,List.length_cons,List.length_nil,List.length_replicate,Nat.zero_add];rfl)|(simp;done)) ?_))(ha:Sub A A':=by(try simp only [List.cons_append,List.nil_append]);repeat (first|with_reducible exact Sub.refl|with_reducible exact Sub.nil|with_reducible refine Sub.cons (by repeat (first|with_reducible exact Ext.here|with_reducible apply Ext.there)) ?_|with_reducible refine Sub.tail ?_)):Ps m Q w0 n L A:=cL hl ha k
theorem Az{m:Md}{Q:Act ->World ->Prop}{w0:World}{n:Nat}{L L':List (Nat × Value)}{A A':List Ao}(k:Ps m Q w0 n L' A')(hl:Wk L L':=by(try simp only [List.cons_append,List.nil_append]);repeat (first|with_reducible exact Wk.nil|refine Wk.cons (by first|rfl|(simp only [List.length_append,List.length_cons,List.length_nil,List.length_replicate,Nat.zero_add];rfl)|(simp;done)) ?_))(ha:Sub A A':=by(try simp only [List.cons_append,List.nil_append]);first|((repeat (first|with_reducible exact Sub.refl|with_reducible apply Sub.cons Ext.here|with_reducible apply Sub.tail));done)|(repeat (first|with_reducible exact Sub.refl|with_reducible exact Sub.nil|(with_reducible apply Sub.cons;· (repeat (first|with_reducible exact Ext.here|with_reducible apply Ext.there)))|with_reducible apply Sub.tail))):Ps m Q w0 n L A:=cL hl ha k
theorem Ch{L:List (Nat × Value)}{x:Nat}{v:Value}(h:Dj L x=some v:=by first|rfl|(simp only [List.length_append,List.length_cons,List.length_nil,List.length_replicate,Nat.zero_add];rfl)|(simp;done)):Dj L x=some v:=h
theorem AQ{A B:List Ao}(h:Sub A B:=by repeat (first|with_reducible exact Sub.refl|with_reducible exact Sub.nil|with_reducible refine Sub.cons (by repeat (first|with_reducible exact Ext.here|with_reducible apply Ext.there)) ?_|with_reducible refine Sub.tail ?_)):Sub A B:=h
theorem Bh{A B:List Ao}(h:Sub A B:=by first|((repeat (first|with_reducible exact Sub.refl|with_reducible apply Sub.cons Ext.here|with_reducible apply Sub.tail));done)|(repeat (first|with_reducible exact Sub.refl|with_reducible exact Sub.nil|(with_reducible apply Sub.cons;· (repeat (first|with_reducible exact Ext.here|with_reducible apply Ext.there)))|with_reducible apply Sub.tail))):Sub A B:=h
theorem Gu{A B R:List Ao}(h:Gv A B R:=by repeat (first|with_reducible exact Gv.nil|(with_reducible apply Gv.cons;· (repeat (first|with_reducible exact Ext.here|with_reducible apply Ext.there))))):Gv A B R:=h
theorem Bf{A:List Ao}{X:Ao}(h:Has A X:=by repeat (first|with_reducible exact Has.here|with_reducible refine Has.there ?_)):Has A X:=h
theorem End.gf{P:Program}{n:Nat}{w0:World}{L:List (Nat × Value)}{A:List Ao}{fn:Func}{F:List Ao}{ρ:Type}{val:ρ ->Value}{post:ρ ->List Ao}{Q:Act ->World ->Prop}(h:End P fn n w0 F val post Q)(r:ρ)(hr:Rs P fn n L A (val r))(hs:Sub A (post r++F):=by simp only [List.cons_append,List.nil_append];first|((repeat (first|with_reducible exact Sub.refl|with_reducible apply Sub.cons Ext.here|with_reducible apply Sub.tail));done)|(repeat (first|with_reducible exact Sub.refl|with_reducible exact Sub.nil|(with_reducible apply Sub.cons;· (repeat (first|with_reducible exact Ext.here|with_reducible apply Ext.there)))|with_reducible apply Sub.tail))):Ps cu Q w0 n L A:=h.go r hr (hs:=hs)
theorem End.gfE{P:Program}{n:Nat}{w0:World}{L:List (Nat × Value)}{A:List Ao}{fn:Func}{F:List Ao}{ρ:Type}{val:ρ ->Value}{post:ρ ->List Ao}{Q:Act ->World ->Prop}(h:End P fn n w0 F val post Q)(r:ρ){v:Value}(hr:Rs P fn n L A v)(he:v=val r)(hs:Sub A (post r++F):=by simp only [List.cons_append,List.nil_append];first|((repeat (first|with_reducible exact Sub.refl|with_reducible apply Sub.cons Ext.here|with_reducible apply Sub.tail));done)|(repeat (first|with_reducible exact Sub.refl|with_reducible exact Sub.nil|(with_reducible apply Sub.cons;· (repeat (first|with_reducible exact Ext.here|with_reducible apply Ext.there)))|with_reducible apply Sub.tail))):Ps cu Q w0 n L A:=h.goE r hr he (hs:=hs)
section
variable {P : Program} {m : Md} {ops : Array Oper} {Q : Exit → Act → World → Prop} {w0 : World} {n : Nat} {L : List (Nat × Value)} {A : List Ao} {o : Oper} {rest : List Oper}
theorem A2{v:Value}{d:Nat}(h:Rd P n o L A v)(hd:o.dst=some d)(k:WL P m ops Q w0 n rest ((d,v)::L) A)(hw:Wt ops o L=some true:=by rfl)(hn:Nat.blt d n=true:=by rfl):WL P m ops Q w0 n (o::rest) L A:=As h hw hd hn k
theorem WJ_tp{S:List Ao}{J:Nat ->Nat}{fuel:Nat}{is:List Nat}(i:Nat){v:Value}{d:Nat}(hi:ops[i]? =some o)(h:Rd P n o L [] v)(hd:o.dst=some d)(hQ: ∀c a w,Q (.panic c) (a.put o.dst v) w ->Q (.panic c) a w)(k:WJ P m ops Q w0 n S J fuel (i::is) ((d,v)::L) A)(hc:IX ops J true (TR ops.size is) i=true:=by kernel_rfl)(hw:Wt ops o L=some true:=by rfl)(hn:Nat.blt d n=true:=by rfl):WJ P m ops Q w0 n S J (fuel+1) is L A:=RZ i hi hc h hw hd hn hQ k
end
end Go.SL

namespace Go.SL
theorem dy:(∀(α:Type) (a b:α),(a≠b)= ¬(a=b))/\True:=⟨fun _ _ _=>rfl,trivial⟩
theorem ca:(∀(A B:List Ao) (X:Ao),(X::A)++B=X::(A++B))/\ ∀B:List Ao,[]++B=B:=⟨fun _ _ _=>rfl,fun _=>rfl⟩
theorem fS{A B R:List Ao}(h:Gv A B R:=by(try dsimp only);(try simp only [List.nil_append]);repeat (first|with_reducible exact Gv.nil|(with_reducible apply Gv.cons;· (repeat (first|with_reducible exact Ext.here|with_reducible apply Ext.there))))):Gv A B R:=h
section
variable {P : Program} {m : Md} {ops : Array Oper} {Q : Exit → Act → World → Prop} {w0 : World} {n : Nat} {L : List (Nat × Value)} {A : List Ao} {o : Oper} {rest : List Oper} {d : Nat} {dst : Option Tmp} {ty : TypeId} {DJ : String} {af : Array Edge} {g : Option (Nat × Bool)}
theorem wK(hd:o.dst=some d)(k:WL P m ops Q w0 n rest ((d,undef)::L) A)(hw:Wt ops o L=some false:=by rfl)(hn:Nat.blt d n=true:=by rfl):WL P m ops Q w0 n (o::rest) L A:=au hw hd hn k
theorem wM{x:Operand}{v:Value}(h:ev L x=some v)(hd:dst=some d)(k:WL P m ops Q w0 n rest ((d,v)::L) A)(hw:Wt ops ⟨dst,.move x,ty,DJ,af,g⟩ L=some true:=by rfl)(hn:Nat.blt d n=true:=by rfl):WL P m ops Q w0 n (⟨dst,.move x,ty,DJ,af,g⟩::rest) L A:=As (JF h) hw hd hn k
theorem wA{x:Operand}{v:Value}(h:ev L x=some v)(hd:dst=some d)(k:WL P m ops Q w0 n rest ((d,v)::L) A)(hw:Wt ops ⟨dst,.assign x,ty,DJ,af,g⟩ L=some true:=by rfl)(hn:Nat.blt d n=true:=by rfl):WL P m ops Q w0 n (⟨dst,.assign x,ty,DJ,af,g⟩::rest) L A:=As (Ag h) hw hd hn k
variable {S : List Ao} {J : Nat → Nat} {fuel : Nat} {is : List Nat}
theorem jK(i:Nat)(hi:ops[i]? =some o)(hd:o.dst=some d)(hp:I4 Q)(k:WJ P m ops Q w0 n S J fuel (i::is) ((d,undef)::L) A)(hc:IX ops J true (TR ops.size is) i=true:=by kernel_rfl)(hw:Wt ops o L=some false:=by rfl)(hn:Nat.blt d n=true:=by rfl):WJ P m ops Q w0 n S J (fuel+1) is L A:=av i hi hc hw hd hn (by rw [hd];exact hp _ _) k
theorem jP(i:Nat){v:Value}(hi:ops[i]? =some o)(h:Rd P n o L [] v)(hd:o.dst=some d)(hp:I4 Q)(k:WJ P m ops Q w0 n S J fuel (i::is) ((d,v)::L) A)(hc:IX ops J true (TR ops.size is) i=true:=by kernel_rfl)(hw:Wt ops o L=some true:=by rfl)(hn:Nat.blt d n=true:=by rfl):WJ P m ops Q w0 n S J (fuel+1) is L A:=RZ i hi hc h hw hd hn (by rw [hd];exact hp _ _) k
theorem jM(i:Nat){x:Operand}{v:Value}(hi:ops[i]? =some ⟨dst,.move x,ty,DJ,af,g⟩)(h:ev L x=some v)(hd:dst=some d)(hp:I4 Q)(k:WJ P m ops Q w0 n S J fuel (i::is) ((d,v)::L) A)(hc:IX ops J true (TR ops.size is) i=true:=by kernel_rfl)(hw:Wt ops ⟨dst,.move x,ty,DJ,af,g⟩ L=some true:=by rfl)(hn:Nat.blt d n=true:=by rfl):WJ P m ops Q w0 n S J (fuel+1) is L A:=jP i hi (JF h) hd hp k hc hw hn
theorem jT(i:Nat){v:Value}(hi:ops[i]? =some o)(h:Rd P n o L S v)(hd:o.dst=some d)(hp:I4 Q)(hS:Sub A S)(k:WJ P m ops Q w0 n S J fuel (i::is) ((d,v)::L) A)(hc:IX ops J false (TR ops.size is) i=true:=by kernel_rfl)(hw:Wt ops o L=some true:=by rfl)(hn:Nat.blt d n=true:=by rfl):WJ P m ops Q w0 n S J (fuel+1) is L A:=Tz i hi hc h hw hd hn (by rw [hd];exact hp _ _) hS k
theorem jO(i:Nat)(h:WI P m ops Q w0 n S J fuel is L A i)(hr:fC ops is= [i]:=by kernel_rfl):WJ P m ops Q w0 n S J (fuel+1) is L A:=Gp hr rfl (eM h)
theorem jD(h:Ps m (Q .normal) w0 n L A)(hr:fC ops is= []:=by kernel_rfl):WJ P m ops Q w0 n S J fuel is L A:=aw hr h
theorem iA{i:Nat}{R:Value ->List Ao ->Prop}(hi:ops[i]? =some o)(h:Ac P n o L A R)(hd:o.dst=some d)(k: ∀v A',R v A' ->WJ P m ops Q w0 n S J fuel (i::is) ((d,v)::L) A')(hw:Wt ops o L=some true:=by rfl)(hn:Nat.blt d n=true:=by rfl)(hJ2:Nat.beq (J i) 2=false:=by rfl)(hJ1:Nat.beq (J i) 1=false:=by rfl):WI P m ops Q w0 n S J fuel is L A i:=B7 hi h hw hd hn hJ2 fun v A' hR=>⟨fun h=>(by rw [hJ1] at h;cases h),k v A' hR⟩
theorem EN{i:Nat}{R:Value ->List Ao ->Prop}(hi:ops[i]? =some o)(h:Ac P n o L A R)(hd:o.dst=none)(k: ∀v A',R v A' ->WJ P m ops Q w0 n S J fuel (i::is) L A')(hw:Wt ops o L=some true:=by rfl)(hJ2:Nat.beq (J i) 2=false:=by rfl)(hJ1:Nat.beq (J i) 1=false:=by rfl):WI P m ops Q w0 n S J fuel is L A i:=Cg hi h hw hd hJ2 fun v A' hR=>⟨fun h=>(by rw [hJ1] at h;cases h),k v A' hR⟩
end
end Go.SL

namespace Go.SL
theorem I{α:Sort _}{a:α} :a=a:=rfl
theorem D8{A B R:List Ao}(h:Gv A B R:=by(try dsimp only);repeat (first|with_reducible exact Gv.nil|(with_reducible apply Gv.cons;· (repeat (first|with_reducible exact Ext.here|with_reducible apply Ext.there))))):Gv A B R:=h
def jz(z:List Nat)(k i:Nat):Nat:=match z.any (Nat.beq i),Nat.blt i k with|true,_=>0|false,true=>2|false,false=>0
end Go.SL

