/-
  Contracts of functions that the claim reaches, or the logic and the plain laws that they rest on, or the row over them. (Conditions: none beyond the statement.)
-/
import Derived.Test.YtoakfknnaiapiaaGreatLibA
import Derived.JoinedCond
set_option linter.all false
/-
 More of words:what may be read as words,a part of a slice as an array,the lesser of two numbers. (Conditions:none;generic over the program.)
-/
namespace Go.SL
open Go.RowKit
section
variable {P : Program} {n : Nat} {L : List (Nat × Value)} {A : List Ao} {d : Option Tmp} {ty : TypeId} {pos' : String} {af : Array Edge} {g : Option (Nat × Bool)} {t t' : TypeId} {x y : Operand} {k : IntKind} {w : Nat}
theorem Re{v:Value}{off i:Nat}{l:List (BitVec w)}{ao:Option Addr}{cap:Nat}{B:List Ao}(hx:ev L x=some (.pointer (some ⟨W0 ao,off,none⟩)))(ht:tk P t=some none)(hA:Sv B v 1 (eU k) l ao cap:=by assumption)
  (hB:Sub A B:=by repeat (first|with_reducible exact Sub.refl|with_reducible exact Sub.nil|with_reducible refine Sub.cons (by repeat (first|with_reducible exact Ext.here|with_reducible apply Ext.there)) ?_|with_reducible refine Sub.tail ?_)) (hp:off=Z7 ao+i*1:=by rfl) (hi:i<l.length:=by omega):
  Rd P n ⟨d,.load t x,ty,pos',af,g⟩ L A (.int k ((l.getD i 0#w).toNat:Int)):=
 Af (i:=i) (j:=0) (y:=l.getD i 0#w) (f:=eU k) hx ht hA hB hp (by rw [List.getD_eq_getElem?_getD,List.getElem?_eq_getElem hi];rfl) rfl
end
end Go.SL
/-
 Several things owned,as one:packed,and laid open again;what is read in one of them is read in the pack. (Conditions:none;generic over the program.)
-/
namespace Go.SL
open Go.RowKit
theorem Sv.imp{α:Type}{A B:List Ao}{v:Value}{e:Nat}{f:α ->List Value}{l:List α}{ao:Option Addr}{cap:Nat}(h:Sv B v e f l ao cap)(k: ∀w,sat w A ->sat w B):Sv A v e f l ao cap:=
 ⟨h.val,h.adr,h.len,h.le,fun w hs=>h.cell w (k w hs)⟩
theorem Sv.pk{α:Type}{X:Ao}{Xs:List Ao}{v:Value}{e:Nat}{f:α ->List Value}{l:List α}{ao:Option Addr}{cap:Nat}(h:Sv [X] v e f l ao cap)(hm:Has Xs X):Sv [F7 Xs] v e f l ao cap:=
 h.imp fun w hs=>by
  have h2:=Bb.1 hs
  rw [List.append_nil] at h2
  obtain⟨R,p⟩:=hm
  have h3:=AS p h2
  exact Sub.sat ⟨R,List.Perm.refl _⟩ h3
section
variable {P : Program} {m : Md} {ops : Array Oper} {Q : Exit → Act → World → Prop} {w0 : World} {n : Nat} {rest : List Oper} {L : List (Nat × Value)} {A R Xs : List Ao} {X : Ao} {c : Code}
theorem ZC{A:List Ao}{w:World}(h:sat w A):sat w (F7 []::A):=Bb.2 h
theorem YV(k:WL P m ops Q w0 n rest L (F7 []::A)):WL P m ops Q w0 n rest L A:=ER (fun _ h=>ZC h) k
end
end Go.SL
/-
 Loops and meeting points that keep whatever they do not name;contracts over several things owned beside. (Conditions:none;generic over the program.)
-/
namespace Go.SL
open Go.RowKit
def Hf(x:Nat):List Nat ->Bool
 | []=>false
 |k::r=>bif Nat.beq k x then true else Hf x r
def V2(ks:List Nat):List (Nat × Value) ->List (Nat × Value)
 | []=> []
 |x::r=>bif Hf x.1 ks then V2 ks r else x::V2 ks r
def Drp(ks:List Nat)(L D:List (Nat × Value)):Prop:=V2 ks L=D
theorem Drp.nil{ks:List Nat} :Drp ks [] []:=rfl
theorem Drp.drop{ks:List Nat}{k:Nat}{v:Value}{L D:List (Nat × Value)}(h:Hf k ks=true)(r:Drp ks L D):Drp ks ((k,v)::L) D:=by
 unfold Drp V2;rw [h];exact r
theorem Drp.keep{ks:List Nat}{k:Nat}{v:Value}{L D:List (Nat × Value)}(h:Hf k ks=false)(r:Drp ks L D):Drp ks ((k,v)::L) ((k,v)::D):=by
 unfold Drp V2;rw [h];exact congrArg (List.cons (k,v)) r
theorem Drp.wk{ks:List Nat} : ∀ {L D:List (Nat × Value)},Drp ks L D ->Wk L D
 | [],D,h=>by unfold Drp V2 at h;subst h;exact Wk.nil
 |(k,v)::L,D,h=>by
  unfold Drp V2 at h
  cases hm:Hf k ks with
  |true=>
   rw [hm] at h
   have ih:=Drp.wk (L:=L) (D:=D) h
   intro x u hx
   have hxk:Hf x ks=false:=by
    cases hq:Hf x ks with
    |false=>rfl
    |true=>
     exfalso
     have: ∀L,Dj (V2 ks L) x=none:=by
      intro L
      induction L with
      |nil=>rfl
      |cons y r ih=>
       obtain⟨j,w⟩:=y
       unfold V2
       cases hj:Hf j ks with
       |true=>simpa [hj] using ih
       |false=>
        have hne:Nat.beq j x=false:=Bool.eq_false_iff.2 fun e=>by
         rw [Nat.eq_of_beq_eq_true e,hq] at hj;cases hj
        show Dj ((j,w)::V2 ks r) x=none
        unfold Dj;rw [hne];exact ih
     have h2:V2 ks L=D:=h
     rw [<-h2,this] at hx;cases hx
   unfold Dj
   have hne:Nat.beq k x=false:=Bool.eq_false_iff.2 fun e=>by
    rw [<-Nat.eq_of_beq_eq_true e,hm] at hxk;cases hxk
   rw [hne];exact ih x u hx
  |false=>
   rw [hm] at h
   have h':(k,v)::V2 ks L=D:=h
   subst h'
   have ih:=Drp.wk (L:=L) (D:=V2 ks L) rfl
   intro x u hx
   unfold Dj at hx ⊢
   cases hb:Nat.beq k x with
   |true=>rw [hb] at hx;exact hx
   |false=>rw [hb] at hx;exact ih x u hx
def Ru(k:Nat):List Nat ->List Nat
 | []=> []
 |j::r=>bif Nat.beq j k then Ru k r else j::Ru k r
theorem Qg{k x:Nat}(h:k≠x): ∀ks:List Nat,Hf x (Ru k ks)=Hf x ks
 | []=>rfl
 |j::r=>by
  have ih:=Qg h r
  have e1:Ru k (j::r)=bif Nat.beq j k then Ru k r else j::Ru k r:=rfl
  have e2:Hf x (j::r)=bif Nat.beq j x then true else Hf x r:=rfl
  rw [e1,e2]
  cases hb:Nat.beq j k with
  |true=>
   have hj:=Nat.eq_of_beq_eq_true hb
   have hx:Nat.beq j x=false:=Bool.eq_false_iff.2 fun e=>h (by rw [<-hj,Nat.eq_of_beq_eq_true e])
   rw [hx];exact ih
  |false=>
   show (bif Nat.beq j x then true else Hf x (Ru k r))=_
   rw [ih]
def Py:List Nat ->List (Nat × Value) ->List (Nat × Value)
 |_,[]=> []
 |ks,x::r=>bif Hf x.1 ks then x::Py (Ru x.1 ks) r else Py ks r
def Kep(ks:List Nat)(L D:List (Nat × Value)):Prop:=Py ks L=D
theorem Kep.nil{ks:List Nat} :Kep ks [] []:=by unfold Kep Py;rfl
theorem Kep.drop{ks:List Nat}{k:Nat}{v:Value}{L D:List (Nat × Value)}(h:Hf k ks=false)(r:Kep ks L D):Kep ks ((k,v)::L) D:=by
 unfold Kep Py;rw [h];exact r
theorem Kep.keep{ks:List Nat}{k:Nat}{v:Value}{L D:List (Nat × Value)}(h:Hf k ks=true)(r:Kep (Ru k ks) L D):Kep ks ((k,v)::L) ((k,v)::D):=by
 unfold Kep Py;rw [h];exact congrArg (List.cons (k,v)) r
theorem KJ{x:Nat} : ∀(L:List (Nat × Value)) (ks:List Nat),Dj (Py ks L) x=if Hf x ks then Dj L x else none
 | [],ks=>by unfold Py Dj;simp
 |(k,v)::L,ks=>by
  have h2:Dj ((k,v)::L) x=bif Nat.beq k x then some v else Dj L x:=rfl
  rw [h2]
  have e1:Py ks ((k,v)::L)=bif Hf k ks then (k,v)::Py (Ru k ks) L else Py ks L:=by conv=>lhs;unfold Py
  rw [e1]
  cases hb:Nat.beq k x with
  |true=>
   have hk:=Nat.eq_of_beq_eq_true hb
   subst hk
   cases hm:Hf k ks with
   |true=>
    show (bif Nat.beq k k then some v else Dj (Py (Ru k ks) L) k)=_
    rw [hb];rfl
   |false=>
    have ih:=KJ (x:=k) L ks
    rw [hm] at ih;simpa using ih
  |false=>
   have hne:k≠x:=fun e=>by rw [e] at hb;rw [show Nat.beq x x=true from Nat.beq_refl x] at hb;cases hb
   cases hm:Hf k ks with
   |true=>
    have ih:=KJ (x:=x) L (Ru k ks)
    rw [Qg hne] at ih
    have e:Dj ((k,v)::Py (Ru k ks) L) x=Dj (Py (Ru k ks) L) x:=by
     show (bif Nat.beq k x then some v else Dj (Py (Ru k ks) L) x)=_
     rw [hb];rfl
    show Dj ((k,v)::Py (Ru k ks) L) x=_
    rw [e];exact ih
   |false=>exact KJ (x:=x) L ks
theorem Kep.wk{ks:List Nat}{L D:List (Nat × Value)}(h:Kep ks L D):Wk L D:=by
 intro x v hx
 have h2:Py ks L=D:=h
 rw [<-h2,KJ] at hx
 split at hx
 ·exact hx
 ·cases hx
theorem Wk.app{L M D:List (Nat × Value)}(h:Wk L M)(h':Wk L D):Wk L (M++D):=by
 intro x v hx
 have:Dj (M++D) x=match Dj M x with|some u=>some u|none=>Dj D x:=by
  clear hx h h'
  induction M with
  |nil=>rfl
  |cons y r ih=>
   obtain⟨k,u⟩:=y
   have h1:Dj ((k,u)::(r++D)) x=bif Nat.beq k x then some u else Dj (r++D) x:=rfl
   have h2:Dj ((k,u)::r) x=bif Nat.beq k x then some u else Dj r x:=rfl
   show Dj ((k,u)::(r++D)) x=_
   rw [h1,h2]
   cases Nat.beq k x
   ·exact ih
   ·rfl
 rw [this] at hx
 cases hm:Dj M x with
 |some u=>rw [hm] at hx;exact h x v (by rw [hm];exact hx)
 |none=>rw [hm] at hx;exact h' x v hx
section
variable {P : Program} {m : Md} {ops : Array Oper} {Q : Exit → Act → World → Prop} {w0 : World} {n : Nat} {rest : List Oper} {L D : List (Nat × Value)} {A R B0 : List Ao} {c x y : Code}
theorem Ak{σ:Type}(M:σ ->List (Nat × Value))(B:σ ->List Ao)(φ:σ ->Prop)(μ:σ ->Nat)(s0:σ)(ks:List Nat)(hD:Kep ks L D)(hR:Gv A B0 R)(h0:φ s0)(hl:Wk L (M s0))(hb:Sub (B0++R) (B s0++R))
  (round: ∀s,φ s -> ∀K:Act ->World ->Prop,(∀s',φ s' ->μ s'<μ s ->Ps m K w0 n (M s'++D) (B s'++R)) ->WC P m (Exit.then K Q) w0 n c (M s++D) (B s++R)):WC P m Q w0 n (.loop c) L A:=
 ax (fun s=>M s++D) (fun s=>B s++R) φ μ s0 h0 (hl.app hD.wk) (by obtain⟨X,p⟩:=hb;exact⟨X,List.Perm.trans hR p⟩) round
theorem Ct.un{f:FuncId}{args:List Value}{Xs pre:List Ao}{ρ:Type}{val:ρ ->Value}{post:ρ ->List Ao}(h:Ct P f args (F7 Xs::pre) val (fun r=>F7 Xs::post r)):Ct P f args (Xs++pre) val (fun r=>Xs++post r):=
 ⟨fun F w hs=>by
  refine(h.out F w (by rw [List.cons_append,Bb,<-List.append_assoc];exact hs)).mono ?_
  rintro e w' ⟨r,he,hs',hk⟩
  refine⟨r,he,?_,hk⟩
  rw [List.cons_append,Bb,<-List.append_assoc] at hs'
  exact hs'⟩
theorem Ct.un0{f:FuncId}{args:List Value}{Xs:List Ao}{ρ:Type}{val:ρ ->Value}{post:ρ ->List Ao}(h:Ct P f args [F7 Xs] val (fun r=>F7 Xs::post r)):Ct P f args Xs val (fun r=>Xs++post r):=by
 have:=h.un
 rwa [List.append_nil] at this
end
end Go.SL
/-
 append(nil,make([]T,n)...):noughts,and room behind them. (Conditions:none;generic over the program.)
-/
namespace Go.SL
open Go.RowKit
variable {P : Program} {n : Nat} {L : List (Nat × Value)} {A : List Ao} {d : Option Tmp} {ty : TypeId} {pos' : String} {af : Array Edge} {g : Option (Nat × Bool)}
end Go.SL
/-
 copy into one's own words,a part of an array in memory,a place of an array that is a value. (Conditions:none;generic over the program.)
-/
namespace Go.SL
open Go.RowKit
variable {P : Program} {n : Nat} {L : List (Nat × Value)} {A : List Ao} {d : Option Tmp} {ty : TypeId} {pos' : String} {af : Array Edge} {g : Option (Nat × Bool)} {t t' : TypeId} {x y : Operand} {k : IntKind} {w : Nat}
end Go.SL
/-
 A list of bytes made out of a text's letters:the conversion marks the block's end,nothing is written there;it reads as before. (Conditions:none;generic over the program.)
-/
namespace Go.SL
open Go.RowKit
end Go.SL
/-
 What a whole program says once,for all rows over it:facts that hang on the program's own word,told over any program that agrees with it. (Conditions:none;generic over the program.)
-/
namespace Go.SL
open Go.RowKit
theorem Za{P:Program}{L:List Char}{m:Option Make}(h:P.initOrder.toList=L)(k: ∀Q:Program,Q.initOrder.toList=L ->Q.headLifts=P.headLifts ->Q.make=m):P.make=m:=k P h rfl
theorem Xj{P:Program}{L:List Char}(h:P.initOrder.toList=L)(k: ∀Q:Program,Q.initOrder.toList=L ->Q.laysLater=P.laysLater ->Q.bearsReflect=P.bearsReflect ->(∀l,Q.doorFits l=P.doorFits l) ->Q.mayEnter=true):P.mayEnter=true:=k P h rfl rfl fun _=>rfl
theorem Xh{P:Program}{f:FuncId}{fn:Func}{s:ChangeSpec}{c:OpenClaim}(k: ∀Q:Program,laidOutB Q=laidOutB P ->mapsRowed Q=mapsRowed P ->(∀t,Q.readableRec t=P.readableRec t) ->(∀a b,namedTie Q a b=namedTie P a b) ->Q.stops=P.stops ->Q.stopKnobs=P.stopKnobs ->(∀f,Q.inPlace f=P.inPlace f) ->(∀f,Q.unfollowed f=P.unfollowed f) ->(∀f,Q.recurses f=P.recurses f) ->(∀f,Q.varsNamed f=P.varsNamed f) ->
  (∀t,Q.mapsRec t=P.mapsRec t) ->(∀t,Q.ifacesRec t=P.ifacesRec t) ->(∀l,Q.mapsAmong l=P.mapsAmong l) ->(∀t,Q.loopsFrom t=P.loopsFrom t) ->(∀t,Q.wideKeysFrom t=P.wideKeysFrom t) ->(∀n,Q.varReadable n=P.varReadable n) ->Q.types.size=P.types.size ->Q.plainKeys=P.plainKeys ->Q.stopsHeard=P.stopsHeard ->Q.mayEnter=P.mayEnter ->Q.liftsFinal=P.liftsFinal ->Q.make=P.make ->(∀t,Q.underlying t=P.underlying t) ->(∀t,Q.veiledRec t=P.veiledRec t) ->(∀a b,c.veiledFits Q a b=c.veiledFits P a b) ->s.plain.varTypes Q=s.plain.varTypes P ->joinedFacts Q f fn s c=true):joinedFacts P f fn s c=true:=
 k P rfl rfl (fun _=>rfl) (fun _ _=>rfl) rfl rfl (fun _=>rfl) (fun _=>rfl) (fun _=>rfl) (fun _=>rfl) (fun _=>rfl) (fun _=>rfl) (fun _=>rfl) (fun _=>rfl) (fun _=>rfl) (fun _=>rfl) rfl rfl rfl rfl rfl rfl (fun _=>rfl) (fun _=>rfl) (fun _ _=>rfl) rfl
end Go.SL
namespace Go.SL
theorem Cw{ks:List Nat}{L D:List (Nat × Value)}(h:Kep ks L D:=by repeat (first|exact Kep.nil|apply Kep.drop rfl|apply Kep.keep rfl)):Kep ks L D:=h
end Go.SL

