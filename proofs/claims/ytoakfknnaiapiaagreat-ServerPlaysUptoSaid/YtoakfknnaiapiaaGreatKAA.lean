/-
  Contracts of functions that the claim reaches, or the logic and the plain laws that they rest on, or the row over them. (Conditions: none beyond the statement.)
-/
import Derived.Test.YtoakfknnaiapiaaGreatLibA
import Derived.Maps.RangeRun
import Derived.Test.YtoakfknnaiapiaaGreatLibB
import Derived.RangeFuncNested
set_option linter.all false
/-
 What the program's digest computes,and what the document's does,in plain words. (Conditions:none;no program in sight.)
-/
set_option maxRecDepth 20000
namespace Go.ShM
open Go.SL
abbrev B8:=BitVec 8
abbrev Bv:=BitVec 32
def Nl(x:Bv)(k:Int):Bv:=(x <<<(BitVec.ofInt 64 k &&& 31#64).toNat) |||(x >>>(32#64 -(BitVec.ofInt 64 k &&& 31#64)).toNat)
def z64:List Bv:=List.replicate 64 0#32
def schS(bs:List B8)(i:Nat)(ws:List Bv):List Bv:=
 if i<16 then ws.set i (((((bs.getD (4*i) 0#8).setWidth 32 <<<24) |||((bs.getD (4*i+1) 0#8).setWidth 32 <<<16)) |||((bs.getD (4*i+2) 0#8).setWidth 32 <<<8)) |||(bs.getD (4*i+3) 0#8).setWidth 32)
 else ws.set i ((((((Nl (ws.getD (i -2) 0#32) (-17)) ^^^ (Nl (ws.getD (i -2) 0#32) (-19))) ^^^ ((ws.getD (i -2) 0#32) >>>10))+ws.getD (i -7) 0#32)+(((Nl (ws.getD (i -15) 0#32) (-7)) ^^^ (Nl (ws.getD (i -15) 0#32) (-18))) ^^^ ((ws.getD (i -15) 0#32) >>>3)))+ws.getD (i -16) 0#32)
def schI(bs:List B8)(i:Nat):List Bv:=it (schS bs) i z64
def schM(bs:List B8):List Bv:=schI bs 64
def uM(x:List Bv)(w:Bv):Bv:=((x.getD 7 0#32+((Nl (x.getD 4 0#32) (-6) ^^^ Nl (x.getD 4 0#32) (-11)) ^^^ Nl (x.getD 4 0#32) (-25)))+((x.getD 4 0#32 &&& x.getD 5 0#32) ^^^ (~~~ (x.getD 4 0#32) &&& x.getD 6 0#32)))+w
def vM(x:List Bv):Bv:=((Nl (x.getD 0 0#32) (-2) ^^^ Nl (x.getD 0 0#32) (-13)) ^^^ Nl (x.getD 0 0#32) (-22))+(((x.getD 0 0#32 &&& x.getD 1 0#32) ^^^ (x.getD 0 0#32 &&& x.getD 2 0#32)) ^^^ (x.getD 1 0#32 &&& x.getD 2 0#32))
def cg(x:List Bv)(w:Bv):List Bv:= [uM x w+vM x,x.getD 0 0#32,x.getD 1 0#32,x.getD 2 0#32,x.getD 3 0#32+uM x w,x.getD 4 0#32,x.getD 5 0#32,x.getD 6 0#32]
def kM:List Bv:= [1116352408#32,1899447441#32,3049323471#32,3921009573#32,961987163#32,1508970993#32,2453635748#32,2870763221#32,3624381080#32,310598401#32,607225278#32,1426881987#32,1925078388#32,2162078206#32,2614888103#32,3248222580#32,3835390401#32,4022224774#32,264347078#32,604807628#32,770255983#32,1249150122#32,1555081692#32,1996064986#32,2554220882#32,2821834349#32,2952996808#32,3210313671#32,3336571891#32,3584528711#32,113926993#32,338241895#32,666307205#32,773529912#32,1294757372#32,1396182291#32,1695183700#32,1986661051#32,2177026350#32,2456956037#32,2730485921#32,2820302411#32,3259730800#32,3345764771#32,3516065817#32,3600352804#32,4094571909#32,275423344#32,430227734#32,506948616#32,659060556#32,883997877#32,958139571#32,1322822218#32,1537002063#32,1747873779#32,1955562222#32,2024104815#32,2227730452#32,2361852424#32,2428436474#32,2756734187#32,3204031479#32,3329325298#32]
def iniM:List Bv:= [1779033703#32,3144134277#32,1013904242#32,2773480762#32,1359893119#32,2600822924#32,528734635#32,1541459225#32]
def rndI(hs ws:List Bv)(i:Nat):List Bv:=it (fun t x=>cg x (kM.getD t 0#32+ws.getD t 0#32)) i hs
def addI(hs xs:List Bv)(i:Nat):List Bv:=it (fun t h=>h.set t (h.getD t 0#32+xs.getD t 0#32)) i hs
def mixM(hs:List Bv)(bs:List B8):List Bv:=addI hs (rndI hs (schM bs) 64) 8
end Go.ShM
set_option maxRecDepth 20000
namespace Go.ShM
open Go.SL
end Go.ShM
namespace Go.ShM
open Go.SL
def w32(i:Nat):Bv:=it (fun _ k=>((k.setWidth 64) >>>8).setWidth 32) i (~~~ BitVec.ofNat 32 0)
end Go.ShM
namespace Go.ShM
open Go.SL
end Go.ShM
/-
 What a server holds,and what is done with it,in plain words. (Conditions:none;no program in sight.)
-/
set_option maxRecDepth 20000
namespace Go.SvM
open Go.SL Go.ShM
structure Ix where
 l:List B8
 h:l.length=16
deriving DecidableEq
abbrev Ky:=Ix × Int
abbrev Ls:=Bv × Int
structure Kp where
 ix:Ix
 num:Int
 b:List B8
 ls:List Ls
def Kp.key(e:Kp):Ky:=(e.ix,e.num)
def Vx:List B8 ->Nat
 | []=>0
 |x::l=>x.toNat*256 ^ l.length+Vx l
def Eh(a b:Ky):Prop:=Vx a.1.l<Vx b.1.l\/(Vx a.1.l=Vx b.1.l/\a.2<b.2)
def Lj(a b:Ls):Prop:=a.1.toNat<b.1.toNat
instance (a b:Ky):Decidable (Eh a b):=by unfold Eh;infer_instance
instance (a b:Ls):Decidable (Lj a b):=by unfold Lj;infer_instance
theorem Rb: ∀l:List B8,Vx l<256 ^ l.length
 | []=>by simp [Vx]
 |x::l=>by
  have:=Rb l
  have hx:x.toNat<256:=x.isLt
  have h2:(x.toNat+1)*256 ^ l.length<=256*256 ^ l.length:=Nat.mul_le_mul_right _ hx
  rw [List.length_cons,Nat.pow_succ,Vx,Nat.mul_comm (256 ^ l.length)]
  rw [Nat.add_mul,Nat.one_mul] at h2
  omega
theorem Ye: ∀ {a b:List B8},a.length=b.length ->Vx a=Vx b ->a=b
 | [],[],_,_=>rfl
 | [],_::_,h,_=>by simp at h
 |_::_,[],h,_=>by simp at h
 |x::a,y::b,h,e=>by
  have hl:a.length=b.length:=by simpa using h
  simp only [Vx,hl] at e
  have ha:=Rb a
  have hb:=Rb b
  rw [hl] at ha
  have hxy:x.toNat=y.toNat:=by
   rcases Nat.lt_trichotomy x.toNat y.toNat with q|q|q
   ·have:=Nat.mul_le_mul_right (256 ^ b.length) q
    rw [Nat.succ_mul] at this;omega
   ·exact q
   ·have:=Nat.mul_le_mul_right (256 ^ b.length) q
    rw [Nat.succ_mul] at this;omega
  have:=Ye hl (by rw [hxy] at e;omega)
  rw [this,BitVec.eq_of_toNat_eq hxy]
theorem d5{a b:Ix}(h:Vx a.l=Vx b.l):a=b:=by
 obtain⟨x,hx⟩:=a
 obtain⟨y,hy⟩:=b
 have:=Ye (hx.trans hy.symm) h
 subst this;rfl
theorem TX(a:Ky): ¬Eh a a:=by unfold Eh;omega
theorem HG{a b c:Ky} :Eh a b ->Eh b c ->Eh a c:=by unfold Eh;omega
theorem XO{a b:Ky} :Eh a b -> ¬Eh b a:=by unfold Eh;omega
theorem KL{a b:Ky}(h: ¬Eh a b)(k: ¬Eh b a):a=b:=by
 unfold Eh at h k
 have h1:a.1=b.1:=d5 (by omega)
 exact Prod.ext h1 (by rw [h1] at h k;omega)
theorem d4{a b:Ky}(h:Eh a b):a≠b:=fun e=>TX a (by rw [e] at h ⊢;exact h)
theorem MM{a b:Ls}(h:Lj a b):a.1≠b.1:=fun e=>by unfold Lj at h;rw [e] at h;omega
def C0(l:List Kp):Nat:=(l.map fun e=>e.b.length).sum
theorem MN{l l':List Kp}(p:l.Perm l'):C0 l=C0 l':=(p.map _).sum_nat
theorem E1(e:Kp)(l:List Kp):C0 (e::l)=e.b.length+C0 l:=by simp [C0]
theorem Fe(l l':List Kp):C0 (l++l')=C0 l+C0 l':=by simp [C0]
def SrtK(l:List Kp):Prop:=l.Pairwise fun a b=>Eh a.key b.key
def SrtW(l:List Ls):Prop:=l.Pairwise Lj
theorem SrtK.nd{l:List Kp}(h:SrtK l):(l.map Kp.key).Nodup:=List.pairwise_map.2 (List.Pairwise.imp (fun q=>d4 q) h)
theorem SrtW.nd{l:List Ls}(h:SrtW l):(l.map Prod.fst).Nodup:=List.pairwise_map.2 (List.Pairwise.imp (fun q=>MM q) h)
def D1(t:Int)(ls:List Ls):List Ls:=ls.filter fun x=>decide (t<=x.2)
def Kp.with(e:Kp)(ls:List Ls):Kp:=⟨e.ix,e.num,e.b,ls⟩
def DR(e:Kp)(ls:List Ls):Option Kp:=if ls= [] then none else some (e.with ls)
def LK(t:Int)(e:Kp):Option Kp:=DR e (D1 t e.ls)
def BW(t:Int)(l:List Kp):List Kp:=l.filterMap (LK t)
theorem Ej{e x:Kp}{ls:List Ls}(h:DR e ls=some x):x.key=e.key/\x.b=e.b/\x.ls=ls/\ls≠ []:=by
 unfold DR at h
 split at h
 ·cases h
 ·cases h;exact⟨rfl,rfl,rfl,‹_›⟩
theorem SrtK.fm{l:List Kp}{f:Kp ->Option Kp}(h:SrtK l)(hf: ∀e x,f e=some x ->x.key=e.key):SrtK (l.filterMap f):=by
 unfold SrtK at*
 rw [List.pairwise_filterMap]
 exact h.imp fun {a b} q x hx y hy=>by rw [hf a x hx,hf b y hy];exact q
def Bc(w:Bv)(u:Int):List Ls ->List Ls
 | []=> [(w,u)]
 |x::r=>if x.1=w then (w,max x.2 u)::r else if w.toNat<x.1.toNat then (w,u)::x::r else x::Bc w u r
def Bi(w:Bv)(ls:List Ls):Bool:=ls.any fun x=>decide (x.1=w)
theorem Qx{w:Bv}{ls:List Ls} :Bi w ls=true<->w∈ls.map Prod.fst:=by
 unfold Bi
 rw [List.any_eq_true,List.mem_map]
 constructor
 ·rintro⟨x,h1,h2⟩;exact⟨x,h1,by simpa using h2⟩
 ·rintro⟨x,h1,h2⟩;exact⟨x,h1,by simpa using h2⟩
def B9(x:Ix)(p:Kp ->Bool)(l:List Kp):List Int:=(l.filter fun e=>decide (e.ix=x) && p e).map Kp.num
theorem MQ{x:Ix}{p:Kp ->Bool}{l:List Kp}(h:SrtK l):(B9 x p l).Pairwise (· < ·):=by
 unfold B9
 rw [List.pairwise_map]
 refine(List.Pairwise.filter _ h).imp_of_mem ?_
 intro a b ha hb q
 have h1:=(List.mem_filter.1 ha).2
 have h2:=(List.mem_filter.1 hb).2
 simp only [Bool.and_eq_true,decide_eq_true_eq] at h1 h2
 unfold Eh at q
 have e:a.key.1=b.key.1:=h1.1.trans h2.1.symm
 rw [e] at q
 rcases q with q|q
 ·omega
 ·exact q.2
theorem UT{l l':List Int}(p:l.Perm l')(h:l'.Pairwise (· < ·)):(l.mergeSort fun x y=>decide (x<=y))=l':=by
 have h1:(l.mergeSort fun x y=>decide (x<=y)).Pairwise (fun x y=>decide (x<=y)=true):=List.pairwise_mergeSort (fun a b c=>by simp;omega) (fun a b=>by simp;omega) l
 have h2:l'.Pairwise (fun x y=>decide (x<=y)=true):=h.imp fun q=>by simp;omega
 exact((List.mergeSort_perm _ _).trans p).eq_of_pairwise (fun a b _ _ q1 q2=>by simp at q1 q2;omega) h1 h2
def EF(k:Ky)(l:List Kp):Option Kp:=l.find? fun e=>decide (e.key=k)
theorem ND{k:Ky}{l:List Kp}{e:Kp}(h:EF k l=some e):e∈l/\e.key=k:=by
 have h1:=List.mem_of_find?_eq_some h
 have h2:=List.find?_some h
 exact⟨h1,by simpa using h2⟩
theorem Si{k:Ky}{l:List Kp}(h:EF k l=none):k ∉ l.map Kp.key:=fun hk=>by
 obtain⟨e,he,rfl⟩:=List.mem_map.1 hk
 unfold EF at h
 rw [List.find?_eq_none] at h
 exact absurd (by simp) (h e he)
theorem OH{l:List Kp}(hn:(l.map Kp.key).Nodup){e:Kp}(h:e∈l):EF e.key l=some e:=by
 induction l with
 |nil=>cases h
 |cons x r ih=>
  have hn':=List.nodup_cons.1 hn
  unfold EF
  rcases List.mem_cons.1 h with rfl|q
  ·rw [List.find?_cons_of_pos (by simp)]
  ·rw [List.find?_cons_of_neg (by simpa using fun e':x.key=e.key=>hn'.1 (by rw [e'];exact List.mem_map.2 ⟨e,q,rfl⟩))]
   exact ih hn'.2 q
end Go.SvM
/-
 Maps of whatever keys,as lists of pairs up to order:Dj-ups,writes,deletes,lengths;going through one in an order that nobody knows. (Conditions:none;generic over the program.)
-/
namespace Go.SL
open Go.RowKit
open Classical in
noncomputable def Hb(k:Value):List MapEntry ->Option Nat
 | []=>none
 |e::r=>if e.key=k then some 0 else (Hb k r).map (· +1)
theorem Iw(k:Value)(e:MapEntry)(r:List MapEntry)[Decidable (e.key=k)]:Hb k (e::r)=if e.key=k then some 0 else (Hb k r).map (· +1):=by
 rw [Hb];by_cases h:e.key=k <;>simp [h]
theorem Gc{k:Value} : ∀ {l:List MapEntry} {j:Nat},Hb k l=some j -> ∃e,l[j]? =some e/\e.key=k
 | [],j,h=>by cases h
 |x::r,j,h=>by
  classical
  rw [Iw] at h
  split at h
  ·rename_i hx;cases h;exact⟨x,rfl,hx⟩
  ·cases hp:Hb k r with
   |none=>rw [hp] at h;cases h
   |some j'=>
    rw [hp] at h;simp at h;subst h
    obtain⟨e,h1,h2⟩:=Gc hp
    exact⟨e,by simpa using h1,h2⟩
theorem Nz{k:Value} : ∀ {l:List MapEntry},Hb k l=none -> ∀e∈l,e.key≠k
 | [],_,e,he=>by cases he
 |x::r,h,e,he=>by
  classical
  rw [Iw] at h
  split at h
  ·cases h
  ·rename_i hx
   cases hp:Hb k r with
   |some j'=>rw [hp] at h;cases h
   |none=>
    rcases List.mem_cons.1 he with rfl|he
    ·exact hx
    ·exact Nz hp e he
structure KeyT (P:Program) (kt:TypeId) {κ:Type} (kf:κ ->Value):Prop where
 inj: ∀a b,kf a=kf b ->a=b
 find: ∀(k:κ) (l:List MapEntry) (w:World),(∀e∈l,∃a,e.key=kf a) ->(Instr.findKey kt (kf k) l).run P w= .ok ((Hb (kf k) l).map fun j=>(j,(l[j]?.map (·.val)).getD undef)) w
 check: ∀(b:Bool) (k:κ) (w:World),(Instr.checkKey b 10000 kt (kf k)).run P w= .ok () w
 stay: ∀k,Instr.sameBits 10000 (kf k) (kf k)=true
section
variable {κ β : Type} [DecidableEq κ]
def E8(k:κ)(l:List (κ × β)):Option β:=(l.find? (fun p=>decide (p.1=k))).map Prod.snd
def CC(k:κ)(l:List (κ × β)):List (κ × β):=l.filter fun p=>decide (p.1≠k)
def EQ(k:κ)(b:β)(l:List (κ × β)):List (κ × β):=(k,b)::CC k l
def C5(l:List (κ × β)):List κ:=l.map Prod.fst
theorem OD{k:κ}{l:List (κ × β)}(h:k ∉ C5 l):E8 k l=none:=by
 unfold E8
 rw [List.find?_eq_none.2 (fun p hp e=>h (List.mem_map.2 ⟨p,hp,by simpa using e⟩))];rfl
theorem OC{k:κ}{b:β} : ∀ {l:List (κ × β)},(C5 l).Nodup ->(k,b)∈l ->E8 k l=some b
 | [],_,h=>by cases h
 |p::l,hn,h=>by
  unfold E8
  by_cases e:p.1=k
  ·rw [List.find?_cons_of_pos (by simpa using e)]
   rcases List.mem_cons.1 h with q|q
   ·rw [<-q];rfl
   ·exact absurd (List.mem_map.2 ⟨(k,b),q,rfl⟩) (by have:=(List.nodup_cons.1 hn).1;rw [e] at this;exact this)
  ·rw [List.find?_cons_of_neg (by simpa using e)]
   rcases List.mem_cons.1 h with q|q
   ·exact absurd (by rw [<-q]) e
   ·exact OC (List.nodup_cons.1 hn).2 q
theorem Xc{k:κ}{b:β}{l:List (κ × β)}(h:E8 k l=some b):(k,b)∈l:=by
 unfold E8 at h
 cases e:l.find? (fun p=>decide (p.1=k)) with
 |none=>rw [e] at h;cases h
 |some p=>
  rw [e] at h
  have h1:=List.find?_some e
  have h2:=List.mem_of_find?_eq_some e
  obtain⟨a,c⟩:=p
  simp at h1 h;subst h1;subst h;exact h2
theorem FW{k:κ}{l:List (κ × β)}(h:k ∉ C5 l):CC k l=l:=by
 unfold CC
 exact List.filter_eq_self.2 fun p hp=>by simpa using fun e:p.1=k=>h (List.mem_map.2 ⟨p,hp,e⟩)
theorem LA{k:κ}{b:β} : ∀ {l:List (κ × β)},(C5 l).Nodup ->(k,b)∈l ->l.Perm ((k,b)::CC k l)
 | [],_,h=>by cases h
 |p::l,hn,h=>by
  have hn':=List.nodup_cons.1 hn
  rcases List.mem_cons.1 h with q|q
  ·subst q
   have:CC k ((k,b)::l)=l:=by
    unfold CC
    rw [List.filter_cons_of_neg (by simp)]
    exact FW hn'.1
   rw [this]
  ·have hne:p.1≠k:=fun e=>hn'.1 (List.mem_map.2 ⟨(k,b),q,e.symm⟩)
   have:CC k (p::l)=p::CC k l:=by unfold CC;rw [List.filter_cons_of_pos (by simpa using hne)]
   rw [this]
   exact((LA hn'.2 q).cons p).trans (.swap _ _ _)
theorem Uz{k:κ}{l:List (κ × β)}{j:κ} :j∈C5 (CC k l)<->j∈C5 l/\j≠k:=by
 unfold C5 CC
 simp only [List.mem_map,List.mem_filter,decide_eq_true_eq]
 constructor
 ·rintro⟨p,⟨h1,h2⟩,rfl⟩;exact⟨⟨p,h1,rfl⟩,h2⟩
 ·rintro⟨⟨p,h1,rfl⟩,h2⟩;exact⟨p,⟨h1,h2⟩,rfl⟩
theorem Mq{k:κ}{l:List (κ × β)}(h:(C5 l).Nodup):(C5 (CC k l)).Nodup:=h.sublist ((List.filter_sublist).map _)
theorem Mp{k:κ}{b:β}{l:List (κ × β)}(h:(C5 l).Nodup):(C5 (EQ k b l)).Nodup:=
 List.nodup_cons.2 ⟨fun h=>(Uz.1 h).2 rfl,Mq h⟩
theorem SI{l l':List (κ × β)}(p:l.Perm l')(h:(C5 l).Nodup):(C5 l').Nodup:=((p.map Prod.fst).nodup_iff).1 h
theorem Qz{k:κ}{l:List (κ × β)} :(E8 k l).isSome=true<->k∈C5 l:=by
 constructor
 ·intro h
  obtain⟨b,hb⟩:=Option.isSome_iff_exists.1 h
  exact List.mem_map.2 ⟨_,Xc hb,rfl⟩
 ·intro h
  cases e:E8 k l with
  |some b=>rfl
  |none=>
   obtain⟨p,hp,rfl⟩:=List.mem_map.1 h
   unfold E8 at e
   simp only [Option.map_eq_none_iff,List.find?_eq_none] at e
   exact absurd (by simp) (e p hp)
def Vi(e:MapEntry):Value × Value:=(e.key,e.val)
def Vh(kf:κ ->Value)(vf:β ->Value)(p:κ × β):Value × Value:=(kf p.1,vf p.2)
structure MWP (kf:κ ->Value) (vf:β ->Value) (es:List MapEntry) (ck:Nat) (l:List (κ × β)):Prop where
 pm:(es.map Vi).Perm (l.map (Vh kf vf))
 nd:(C5 l).Nodup
 born: ∀e∈es,e.born<ck
 bnd:(es.map (·.born)).Nodup
def Bs(m:Nat)(kf:κ ->Value)(vf:β ->Value)(l:List (κ × β)):Ao:=fun h=> ∃x:Array MapEntry × Nat,MWP kf vf x.1.toList x.2 l/\pt m (.map x.1 x.2) h
variable {kf : κ → Value} {vf : β → Value} {es : List MapEntry} {ck : Nat} {l : List (κ × β)}
theorem MWP.keys(h:MWP kf vf es ck l): ∀e∈es,∃a,e.key=kf a:=fun e he=>by
 obtain⟨p,hp,q⟩:=List.mem_map.1 (h.pm.mem_iff.1 (List.mem_map.2 ⟨e,he,rfl⟩))
 exact⟨p.1,by have:=congrArg Prod.fst q;exact this.symm⟩
theorem MWP.perm{l':List (κ × β)}(h:MWP kf vf es ck l)(p:l.Perm l'):MWP kf vf es ck l':=⟨h.pm.trans (p.map _),SI p h.nd,h.born,h.bnd⟩
theorem MWP.at(hi: ∀a b,kf a=kf b ->a=b)(h:MWP kf vf es ck l){k:κ}{j:Nat}{e:MapEntry}(hj:es[j]? =some e)(hk:e.key=kf k): ∃b,e.val=vf b/\(k,b)∈l/\E8 k l=some b:=by
 obtain⟨p,hp,q⟩:=List.mem_map.1 (h.pm.mem_iff.1 (List.mem_map.2 ⟨e,List.mem_of_getElem? hj,rfl⟩))
 have q1:kf p.1=kf k:=(congrArg Prod.fst q).trans hk
 obtain⟨a,b⟩:=p
 obtain rfl:=hi _ _ q1
 exact⟨b,(congrArg Prod.snd q).symm,hp,OC h.nd hp⟩
theorem MWP.absent(h:MWP kf vf es ck l){k:κ}(hp:Hb (kf k) es=none):k ∉ C5 l:=fun hk=>by
 obtain⟨p,hp',rfl⟩:=List.mem_map.1 hk
 obtain⟨e,he,q⟩:=List.mem_map.1 (h.pm.mem_iff.2 (List.mem_map.2 ⟨p,hp',rfl⟩))
 exact Nz hp e he (congrArg Prod.fst q)
theorem Ja{α:Type} : ∀ {l:List α} {j:Nat} {x:α},l[j]? =some x ->l.Perm (x::l.eraseIdx j)
 | [],j,x,h=>by simp at h
 |y::l,0,x,h=>by simp at h;subst h;exact .refl _
 |y::l,j+1,x,h=>((Ja (l:=l) (by simpa using h)).cons y).trans (.swap _ _ _)
theorem QN{α:Type} : ∀ {l:List α} {j:Nat} {x y:α},l[j]? =some x ->(l.set j y).Perm (y::l.eraseIdx j)
 | [],j,x,y,h=>by simp at h
 |z::l,0,x,y,h=>by simp
 |z::l,j+1,x,y,h=>((QN (l:=l) (y:=y) (by simpa using h)).cons z).trans (.swap _ _ _)
theorem MWP.del0(hi: ∀a b,kf a=kf b ->a=b)(h:MWP kf vf es ck l){k:κ}{j:Nat}{e:MapEntry}(hj:es[j]? =some e)(hk:e.key=kf k):((es.eraseIdx j).map Vi).Perm ((CC k l).map (Vh kf vf)):=by
 obtain⟨b,hb,hm,_⟩:=h.at hi hj hk
 have h1:=(Ja hj).map Vi
 have h2:=(LA h.nd hm).map (Vh kf vf)
 have h3:=h1.symm.trans (h.pm.trans h2)
 rw [List.map_cons,List.map_cons,show Vi e=Vh kf vf (k,b) from by unfold Vi Vh;rw [hk,hb]] at h3
 exact h3.cons_inv
theorem MWP.del(hi: ∀a b,kf a=kf b ->a=b)(h:MWP kf vf es ck l){k:κ}{j:Nat}{e:MapEntry}(hj:es[j]? =some e)(hk:e.key=kf k):MWP kf vf (es.eraseIdx j) ck (CC k l):=
 ⟨h.del0 hi hj hk,Mq h.nd,fun x hx=>h.born x ((List.eraseIdx_sublist es j).mem hx),h.bnd.sublist ((List.eraseIdx_sublist es j).map _)⟩
theorem MWP.set(hi: ∀a b,kf a=kf b ->a=b)(h:MWP kf vf es ck l){k:κ}{b:β}{j:Nat}{e:MapEntry}(hj:es[j]? =some e)(hk:e.key=kf k):MWP kf vf (es.set j { key:=kf k,val:=vf b,born:=e.born }) ck (EQ k b l):=by
 have hp:=QN (y:=({ key:=kf k,val:=vf b,born:=e.born } :MapEntry)) hj
 refine⟨?_,Mp h.nd,fun x hx=>?_,?_⟩
 ·refine(hp.map Vi).trans ?_
  rw [List.map_cons]
  exact(h.del0 hi hj hk).cons _
 ·rcases List.mem_or_eq_of_mem_set hx with hx|rfl
  ·exact h.born x hx
  ·exact h.born e (List.mem_of_getElem? hj)
 ·have hm2:(es.set j { key:=kf k,val:=vf b,born:=e.born }).map (·.born)=es.map (·.born):=by
   rw [List.map_set]
   have hlt:=(List.getElem?_eq_some_iff.1 hj).1
   have:e.born=(es.map (·.born))[j]'(by simpa using hlt):=by simp [(List.getElem?_eq_some_iff.1 hj).2]
   show (es.map (·.born)).set j e.born=_
   rw [this,List.set_getElem_self]
  rw [hm2];exact h.bnd
theorem MWP.push(h:MWP kf vf es ck l){k:κ}(b:β)(hp:Hb (kf k) es=none):MWP kf vf (es++ [{ key:=kf k,val:=vf b,born:=ck }]) (ck+1) (EQ k b l):=by
 have hk:=h.absent hp
 refine⟨?_,Mp h.nd,fun x hx=>?_,?_⟩
 ·unfold EQ
  rw [FW hk,List.map_append,List.map_cons]
  refine List.perm_append_comm.trans ?_
  exact h.pm.cons _
 ·rcases List.mem_append.1 hx with hx|hx
  ·have:=h.born x hx;omega
  ·simp at hx;subst hx;exact Nat.lt_succ_self _
 ·rw [List.map_append,List.nodup_append]
  refine⟨h.bnd,by simp,fun a ha b hb=>?_⟩
  simp at hb;subst hb
  obtain⟨e,he,rfl⟩:=List.mem_map.1 ha
  exact Nat.ne_of_lt (h.born e he)
theorem G3{m:Nat}{R:List Ao}{w:World}(h:sat w (Bs m kf vf l::R)): ∃es ck,MWP kf vf es.toList ck l/\sat w (pt m (.map es ck)::R):=by
 obtain⟨⟨es,ck⟩,h⟩:=E3.1 h
 obtain⟨h1,h2⟩:=Co.1 h
 exact⟨es,ck,h1,h2⟩
theorem FK{m:Nat}{R:List Ao}{w:World}{es:Array MapEntry}{ck:Nat}(h:MWP kf vf es.toList ck l)(hs:sat w (pt m (.map es ck)::R)):sat w (Bs m kf vf l::R):=E3.2 ⟨(es,ck),Co.2 ⟨h,hs⟩⟩
theorem QW{m:Nat}{l':List (κ × β)}{R:List Ao}{w:World}(p:l.Perm l')(h:sat w (Bs m kf vf l::R)):sat w (Bs m kf vf l'::R):=by
 obtain⟨es,ck,h1,h2⟩:=G3 h
 exact FK (h1.perm p) h2
structure MWN (kf:κ ->Value) (vf:β ->Value) (es:List MapEntry) (ck:Nat) (l rest:List (κ × β)) (cur:Option (κ × β)) (seen:Array Nat):Prop where
 mw:MWP kf vf es ck l
 rs:((es.filter fun e=> !seen.contains e.born).map Vi).Perm (rest.map (Vh kf vf))
 cr: ∀p,cur=some p -> ∃e∈es,Vi e=Vh kf vf p/\ ∃s0:Array Nat,seen=s0.push e.born
def Gt(m r:Nat)(kf:κ ->Value)(vf:β ->Value)(l rest:List (κ × β))(cur:Option (κ × β)):Ao:=fun h=> ∃x:Array MapEntry × Nat × Array Nat,MWN kf vf x.1.toList x.2.1 l rest cur x.2.2/\F7 [pt m (.map x.1 x.2.1),pt r (.mapIter (some m) x.2.1 x.2.2 x.2.1)] h
variable {rest : List (κ × β)} {cur : Option (κ × β)}
theorem Gl{m r:Nat}{R:List Ao}{w:World}(h:sat w (Gt m r kf vf l rest cur::R)): ∃es ck seen,MWN kf vf es.toList ck l rest cur seen/\sat w (pt m (.map es ck)::pt r (.mapIter (some m) ck seen ck)::R):=by
 obtain⟨⟨es,ck,seen⟩,h⟩:=E3.1 h
 obtain⟨h1,h2⟩:=Co.1 h
 exact⟨es,ck,seen,h1,Bb.1 h2⟩
theorem Gk{m r:Nat}{R:List Ao}{w:World}{es:Array MapEntry}{ck:Nat}{seen:Array Nat}(h:MWN kf vf es.toList ck l rest cur seen)(hs:sat w (pt m (.map es ck)::pt r (.mapIter (some m) ck seen ck)::R)):sat w (Gt m r kf vf l rest cur::R):=
 E3.2 ⟨(es,ck,seen),Co.2 ⟨h,Bb.2 hs⟩⟩
theorem MWN.sub{seen:Array Nat}(hi: ∀a b,kf a=kf b ->a=b)(hv: ∀a b,vf a=vf b ->a=b)(h:MWN kf vf es ck l rest cur seen): ∀p∈rest,p∈l:=fun p hp=>by
 obtain⟨e,he,q⟩:=List.mem_map.1 (h.rs.mem_iff.2 (List.mem_map.2 ⟨p,hp,rfl⟩))
 obtain⟨p',hp',q'⟩:=List.mem_map.1 (h.mw.pm.mem_iff.1 (List.mem_map.2 ⟨e,(List.mem_filter.1 he).1,rfl⟩))
 have e1:=q'.trans q
 have e2:=hi _ _ (congrArg Prod.fst e1)
 have e3:=hv _ _ (congrArg Prod.snd e1)
 have:p'=p:=Prod.ext e2 e3
 exact this ▸ hp'
theorem MWN.keysNd{seen:Array Nat}(hi: ∀a b,kf a=kf b ->a=b)(h:MWN kf vf es ck l rest cur seen):(C5 rest).Nodup:=by
 have h1:((l.map (Vh kf vf)).map Prod.fst).Nodup:=by
  rw [List.map_map]
  show (l.map (fun p=>kf p.1)).Nodup
  have:=h.mw.nd
  unfold C5 at this
  rw [show (l.map fun p=>kf p.1)=(l.map Prod.fst).map kf from by rw [List.map_map];rfl]
  exact List.Pairwise.map kf (fun a b hne e=>hne (hi a b e)) this
 have h2:((es.map Vi).map Prod.fst).Nodup:=((h.mw.pm.map Prod.fst).nodup_iff).2 h1
 have h3:(((es.filter fun e=> !seen.contains e.born).map Vi).map Prod.fst).Nodup:=h2.sublist (((List.filter_sublist).map _).map _)
 have h4:((rest.map (Vh kf vf)).map Prod.fst).Nodup:=((h.rs.map Prod.fst).nodup_iff).1 h3
 rw [List.map_map] at h4
 unfold C5
 have h5:(rest.map fun p=>kf p.1).Nodup:=h4
 rw [show (rest.map fun p=>kf p.1)=(rest.map Prod.fst).map kf from by rw [List.map_map];rfl] at h5
 exact(List.pairwise_map.1 h5).imp (fun hne e=>hne (by rw [e]))
theorem O2{m r:Nat}{A:List Ao}{w:World}(hi: ∀a b,kf a=kf b ->a=b)(hv: ∀a b,vf a=vf b ->a=b)(hA:Has A (Gt m r kf vf l rest cur))(h:sat w A):(C5 l).Nodup/\(C5 rest).Nodup/\ ∀p∈rest,p∈l:=by
 obtain⟨R,p⟩:=hA
 obtain⟨es,ck,seen,h1,_⟩:=Gl (AS p h)
 exact⟨h1.mw.nd,h1.keysNd hi,h1.sub hi hv⟩
theorem TL{m r:Nat}{R:List Ao}{w:World}(h:sat w (Gt m r kf vf l rest cur::R)):sat w (Gt m r kf vf l rest none::R):=by
 obtain⟨es,ck,seen,h1,h2⟩:=Gl h
 exact Gk ⟨h1.mw,h1.rs,fun p hp=>by cases hp⟩ h2
theorem QY{m r:Nat}{l' rest':List (κ × β)}{R:List Ao}{w:World}(p:l.Perm l')(q:rest.Perm rest')(h:sat w (Gt m r kf vf l rest cur::R)):sat w (Gt m r kf vf l' rest' cur::R):=by
 obtain⟨es,ck,seen,h1,h2⟩:=Gl h
 exact Gk ⟨h1.mw.perm p,h1.rs.trans (q.map _),h1.cr⟩ h2
theorem LR{α γ:Type}[DecidableEq γ](f:α ->γ): ∀ {l:List α} {x:α},(l.map f).Nodup ->x∈l ->l.Perm (x::l.filter fun y=>decide (f y≠f x))
 | [],x,_,h=>by cases h
 |y::l,x,hn,h=>by
  have hn':=List.nodup_cons.1 hn
  rcases List.mem_cons.1 h with q|q
  ·subst q
   rw [List.filter_cons_of_neg (by simp),List.filter_eq_self.2 (fun z hz=>by simpa using fun e:f z=f x=>hn'.1 (e ▸ List.mem_map.2 ⟨z,hz,rfl⟩))]
  ·have hne:f y≠f x:=fun e=>hn'.1 (e ▸ List.mem_map.2 ⟨x,q,rfl⟩)
   rw [List.filter_cons_of_pos (by simpa using hne)]
   exact((LR f hn'.2 q).cons y).trans (.swap _ _ _)
theorem MWN.next{seen:Array Nat}(hi: ∀a b,kf a=kf b ->a=b)(h:MWN kf vf es ck l rest cur seen){e:MapEntry}(he:e∈es.filter fun e=> !seen.contains e.born):
  ∃k b pre post,rest=pre++(k,b)::post/\e.key=kf k/\e.val=vf b/\MWN kf vf es ck l (pre++post) (some (k,b)) (seen.push e.born):=by
 obtain⟨p,hp,q⟩:=List.mem_map.1 (h.rs.mem_iff.1 (List.mem_map.2 ⟨e,he,rfl⟩))
 obtain⟨k,b⟩:=p
 obtain⟨pre,post,rfl⟩:=List.append_of_mem hp
 refine⟨k,b,pre,post,rfl,(congrArg Prod.fst q).symm,(congrArg Prod.snd q).symm,h.mw,?_,fun p hp=>?_⟩
 ·have h1:=(LR (·.born) (h.mw.bnd.sublist ((List.filter_sublist).map _)) he).map Vi
  have h2:(es.filter fun x=> !(seen.push e.born).contains x.born)=(es.filter fun e=> !seen.contains e.born).filter fun y=>decide (y.born≠e.born):=by
   rw [List.filter_filter]
   refine List.filter_congr fun x _=>?_
   simp only [Array.contains_push,Bool.not_or]
   by_cases hx:x.born=e.born
   ·simp [hx]
   ·have h1:(x.born==e.born)=false:=by simpa using hx
    have h2:(e.born==x.born)=false:=by simpa using fun q:e.born=x.born=>hx q.symm
    simp [hx,h1,h2]
  rw [h2]
  have h3:((pre++(k,b)::post).map (Vh kf vf)).Perm (Vh kf vf (k,b)::(pre++post).map (Vh kf vf)):=(List.perm_middle.map _)
  have h4:=h1.symm.trans (h.rs.trans h3)
  rw [List.map_cons,<-q] at h4
  exact h4.cons_inv
 ·cases hp
  exact⟨e,(List.mem_filter.1 he).1,q.symm,seen,rfl⟩
theorem Wy{m r:Nat}{R:List Ao}{w:World}(h:sat w (Gt m r kf vf l rest cur::R)):sat w (Bs m kf vf l::R):=by
 obtain⟨es,ck,seen,h1,h2⟩:=Gl h
 exact FK h1.mw (Ll (R:= [pt r (.mapIter (some m) ck seen ck)]) (by
  rw [List.cons_append]
  exact(List.perm_append_comm (l₁:= [pt r (.mapIter (some m) ck seen ck)]) (l₂:=R)).cons _) h2)
end
section
variable {P : Program} {κ β : Type} [DecidableEq κ] {kf : κ → Value} {vf : β → Value} {l : List (κ × β)}
variable {n : Nat} {L : List (Nat × Value)} {A : List Ao} {d : Option Tmp} {ty : TypeId} {pos' : String} {af : Array Edge} {g : Option (Nat × Bool)}
theorem FY{t:TypeId}(kf:κ ->Value)(vf:β ->Value):Ac P n ⟨d,.makeMap t none,ty,pos',af,g⟩ L A (fun v A'=> ∃m,v= .map (some m)/\A'=Bs m kf vf ([]:List (κ × β))::A):=
 Ew fun a w hf hs=>by
  refine⟨_,{ w with heap:=w.heap.push (.map #[] 0) },_,.inl ?_,⟨w.heap.size,rfl,rfl⟩,?_,IU⟩
  ·simp [execOp,Instr.makeMap]
  ·exact FK (es:= #[]) (ck:=0) ⟨.refl _,List.nodup_nil,fun e he=>by simp at he,by simp⟩ (GR (w:=w) (w':= { w with heap:=w.heap.push (.map #[] 0) }) (o:=.map #[] 0) rfl hs)
theorem Nw{t kt et:TypeId}{m:Nat}{k:κ}{z:Value}{x y:Operand}{a:Act}{w:World}{c:Bool}(hK:KeyT P kt kf)(hx:a.eval x= .map (some m))(hy:a.eval y=kf k)(hu:P.underlying t=some (.map kt et))(hz: ∀w,(zeroValue et).run P w= .ok z w)
  {es:Array MapEntry} {ck:Nat} (hM:MWP kf vf es.toList ck l) (hm:w.heap[m]? =some (.map es ck)):
  (Instr.lookup t (a.eval x) (a.eval y) c).run P w= .ok (if c then .tuple #[((E8 k l).map vf).getD z,.bool (E8 k l).isSome] else ((E8 k l).map vf).getD z) w:=by
 rw [hx,hy]
 simp only [Instr.lookup,Sem.run_bind,BJ hu,Result.andThen_ok,Dp hm,Sem.run_pure,hK.check,hK.find k _ _ hM.keys]
 cases hp:Hb (kf k) es.toList with
 |none=>rw [OD (hM.absent hp)];cases c <;>simp [hz]
 |some j=>
  obtain⟨e,he,hk⟩:=Gc hp
  obtain⟨b,hb,_,hg⟩:=hM.at hK.inj he hk
  rw [hg];simp at he;cases c <;>simp [he,hb]
theorem DT{t kt et:TypeId}{x y:Operand}{m:Nat}{k:κ}{z:Value}(hK:KeyT P kt kf)(hx:ev L x=some (.map (some m)))(hy:ev L y=some (kf k))(hu:P.underlying t=some (.map kt et))(hz: ∀w,(zeroValue et).run P w= .ok z w)
  (hA:Has A (Bs m kf vf l):=by repeat (first|with_reducible exact Has.here|with_reducible refine Has.there ?_)):Rd P n ⟨d,.lookup t x y true,ty,pos',af,g⟩ L A (.tuple #[((E8 k l).map vf).getD z,.bool (E8 k l).isSome]):=fun a w hf hs=>by
 obtain⟨R,p⟩:=hA
 obtain⟨es,ck,hM,hs'⟩:=G3 (AS p hs)
 have h:=Nw (c:=true) hK (hf.eval hx) (hf.eval hy) hu hz hM (Cn hs')
 simp only [execOp,Sem.run_bind,h,Result.andThen_ok,Sem.run_pure];rfl
theorem EO{t kt et:TypeId}{x y:Operand}{m:Nat}{k:κ}{z:Value}(hK:KeyT P kt kf)(hx:ev L x=some (.map (some m)))(hy:ev L y=some (kf k))(hu:P.underlying t=some (.map kt et))(hz: ∀w,(zeroValue et).run P w= .ok z w)
  (hA:Has A (Bs m kf vf l):=by repeat (first|with_reducible exact Has.here|with_reducible refine Has.there ?_)):Rd P n ⟨d,.lookup t x y false,ty,pos',af,g⟩ L A (((E8 k l).map vf).getD z):=fun a w hf hs=>by
 obtain⟨R,p⟩:=hA
 obtain⟨es,ck,hM,hs'⟩:=G3 (AS p hs)
 have h:=Nw (c:=false) hK (hf.eval hx) (hf.eval hy) hu hz hM (Cn hs')
 simp only [execOp,Sem.run_bind,h,Result.andThen_ok,Sem.run_pure];rfl
theorem MG{t kt et:TypeId}{x:Operand}{m:Nat}{ts:Array TypeId}(hx:ev L x=some (.map (some m)))(ht:ts[0]? =some t)(hu:P.underlying t=some (.map kt et))(hA:Has A (Bs m kf vf l):=by repeat (first|with_reducible exact Has.here|with_reducible refine Has.there ?_)):
  Rd P n ⟨d,.call ⟨.builtin .len, #[x],ts⟩,ty,pos',af,g⟩ L A (.int .i64 ((l.length:Nat):Int)):=fun a w hf hs=>by
 obtain⟨R,p⟩:=hA
 obtain⟨es,ck,hM,hs'⟩:=G3 (AS p hs)
 have hm:=Cn hs'
 have hl:es.size=l.length:=by have:=hM.pm.length_eq;simpa using this
 simp [execOp,resolve,invoke,Go.builtin,hf.eval hx,Builtin.len_,ht,BJ hu,Dp hm,hl,goInt]
theorem F5{t kt et:TypeId}{x y z:Operand}{m:Nat}{k:κ}{R:List Ao}(b:β)(hK:KeyT P kt kf)(hx:ev L x=some (.map (some m)))(hy:ev L y=some (kf k))(hz:ev L z=some (vf b))(hu:P.underlying t=some (.map kt et))
  (hE:Ext A (Bs m kf vf l) R:=by repeat (first|with_reducible exact Ext.here|with_reducible apply Ext.there)):Ac P n ⟨d,.mapUpdate t x y z,ty,pos',af,g⟩ L A (fun _ A'=>A'=Bs m kf vf (EQ k b l)::R):=
 Ew fun a w hf hs=>by
  obtain⟨es,ck,hM,hs'⟩:=G3 (AS hE hs)
  have hm:=Cn hs'
  cases hp:Hb (kf k) es.toList with
  |some j=>
   obtain⟨e,he,hke⟩:=Gc hp
   have he':es[j]? =some e:=by simpa using he
   refine⟨_,{ w with heap:=w.heap.setIfInBounds m (.map (es.modify j fun e=> { e with key:=kf k,val:=vf b }) ck) },_,.inr ⟨?_,rfl⟩,rfl,?_,FN⟩
   ·simp [execOp,hf.eval hx,hf.eval hy,hf.eval hz,Instr.mapUpdate,BJ hu,Dp hm,hK.check,hK.find k _ _ hM.keys,hp,he',Instr.keyThatStays,hke,hK.stay,EY hm]
   ·refine FK ?_ (GP hs')
    have:(es.modify j fun e=> { e with key:=kf k,val:=vf b }).toList=es.toList.set j { key:=kf k,val:=vf b,born:=e.born } :=by
     rw [Array.toList_modify,Jd he]
    rw [this]
    exact hM.set hK.inj he hke
  |none=>
   refine⟨_,{ w with heap:=w.heap.setIfInBounds m (.map (es.push { key:=kf k,val:=vf b,born:=ck }) (ck+1)) },_,.inr ⟨?_,rfl⟩,rfl,?_,FN⟩
   ·simp [execOp,hf.eval hx,hf.eval hy,hf.eval hz,Instr.mapUpdate,BJ hu,Dp hm,hK.check,hK.find k _ _ hM.keys,hp,EY hm]
   ·refine FK ?_ (GP hs')
    rw [Array.toList_push]
    exact hM.push b hp
theorem U8{t t' kt et:TypeId}{x y:Operand}{m:Nat}{k:κ}{R:List Ao}(hK:KeyT P kt kf)(hx:ev L x=some (.map (some m)))(hy:ev L y=some (kf k))(hu:P.underlying t=some (.map kt et))
  (hE:Ext A (Bs m kf vf l) R:=by repeat (first|with_reducible exact Ext.here|with_reducible apply Ext.there)):Ac P n ⟨d,.call ⟨.builtin .delete, #[x,y], #[t,t']⟩,ty,pos',af,g⟩ L A (fun _ A'=>A'=Bs m kf vf (CC k l)::R):=
 Ew fun a w hf hs=>by
  obtain⟨es,ck,hM,hs'⟩:=G3 (AS hE hs)
  have hm:=Cn hs'
  cases hp:Hb (kf k) es.toList with
  |some j=>
   obtain⟨e,he,hke⟩:=Gc hp
   refine⟨.tuple #[],{ w with heap:=w.heap.setIfInBounds m (.map (es.eraseIdxIfInBounds j) ck) },_,.inl ?_,rfl,?_,FN⟩
   ·simp [execOp,resolve,invoke,Go.builtin,hf.eval hx,hf.eval hy,Builtin.delete_,BJ hu,Dp hm,hK.check,hK.find k _ _ hM.keys,hp,EY hm]
   ·refine FK ?_ (GP hs')
    have hlt:=(List.getElem?_eq_some_iff.1 he).1
    have:(es.eraseIdxIfInBounds j).toList=es.toList.eraseIdx j:=by
     rw [Array.eraseIdxIfInBounds,dif_pos (by simpa using hlt)];simp
    rw [this]
    exact hM.del hK.inj he hke
  |none=>
   refine⟨.tuple #[],{ w with heap:=w.heap.setIfInBounds m (.map es ck) },_,.inl ?_,rfl,?_,FN⟩
   ·simp [execOp,resolve,invoke,Go.builtin,hf.eval hx,hf.eval hy,Builtin.delete_,BJ hu,Dp hm,hK.check,hK.find k _ _ hM.keys,hp,EY hm]
   ·refine FK ?_ (GP hs')
    rw [FW (hM.absent hp)];exact hM
theorem U9{t t' kt et:TypeId}{x y:Operand}{m r:Nat}{k:κ}{rest:List (κ × β)}{cur:Option (κ × β)}{R:List Ao}(hK:KeyT P kt kf)(hx:ev L x=some (.map (some m)))(hy:ev L y=some (kf k))(hu:P.underlying t=some (.map kt et))(hr:k ∉ C5 rest)
  (hE:Ext A (Gt m r kf vf l rest cur) R:=by repeat (first|with_reducible exact Ext.here|with_reducible apply Ext.there)):Ac P n ⟨d,.call ⟨.builtin .delete, #[x,y], #[t,t']⟩,ty,pos',af,g⟩ L A (fun _ A'=>A'=Gt m r kf vf (CC k l) rest none::R):=
 Ew fun a w hf hs=>by
  obtain⟨es,ck,seen,hN,hs'⟩:=Gl (AS hE hs)
  have hM:=hN.mw
  have hm:=Cn hs'
  cases hp:Hb (kf k) es.toList with
  |some j=>
   obtain⟨e,he,hke⟩:=Gc hp
   refine⟨.tuple #[],{ w with heap:=w.heap.setIfInBounds m (.map (es.eraseIdxIfInBounds j) ck) },_,.inl ?_,rfl,?_,FN⟩
   ·simp [execOp,resolve,invoke,Go.builtin,hf.eval hx,hf.eval hy,Builtin.delete_,BJ hu,Dp hm,hK.check,hK.find k _ _ hM.keys,hp,EY hm]
   ·refine Gk ?_ (GP hs')
    have hlt:=(List.getElem?_eq_some_iff.1 he).1
    have:(es.eraseIdxIfInBounds j).toList=es.toList.eraseIdx j:=by
     rw [Array.eraseIdxIfInBounds,dif_pos (by simpa using hlt)];simp
    rw [this]
    refine⟨hM.del hK.inj he hke,?_,fun p hp=>by cases hp⟩
    have hs:(!seen.contains e.born)=false:=by
     cases hc:(!seen.contains e.born) with
     |false=>rfl
     |true=>
      exfalso
      obtain⟨p,hp',q⟩:=List.mem_map.1 (hN.rs.mem_iff.1 (List.mem_map.2 ⟨e,List.mem_filter.2 ⟨List.mem_of_getElem? he,hc⟩,rfl⟩))
      exact hr (List.mem_map.2 ⟨p,hp',hK.inj _ _ ((congrArg Prod.fst q).trans hke)⟩)
    have h1:=((Ja he).filter (fun e=> !seen.contains e.born)).map Vi
    rw [List.filter_cons_of_neg (by simpa using hs)] at h1
    exact h1.symm.trans hN.rs
  |none=>
   refine⟨.tuple #[],{ w with heap:=w.heap.setIfInBounds m (.map es ck) },_,.inl ?_,rfl,?_,FN⟩
   ·simp [execOp,resolve,invoke,Go.builtin,hf.eval hx,hf.eval hy,Builtin.delete_,BJ hu,Dp hm,hK.check,hK.find k _ _ hM.keys,hp,EY hm]
   ·refine Gk ?_ (GP hs')
    rw [FW (hM.absent hp)];exact⟨hN.mw,hN.rs,fun p hp=>by cases hp⟩
theorem Im{t kt et:TypeId}{x:Operand}{m:Nat}{R:List Ao}(hx:ev L x=some (.map (some m)))(hu:P.underlying t=some (.map kt et))(hE:Ext A (Bs m kf vf l) R:=by repeat (first|with_reducible exact Ext.here|with_reducible apply Ext.there)):
  Ac P n ⟨d,.range t x,ty,pos',af,g⟩ L A (fun v A'=> ∃r,v= .pointer (some ⟨r,0,none⟩)/\A'=Gt m r kf vf l l none::R):=
 Ew fun a w hf hs=>by
  obtain⟨es,ck,hM,hs'⟩:=G3 (AS hE hs)
  have hm:=Cn hs'
  refine⟨_,{ w with heap:=w.heap.push (.mapIter (some m) ck #[] ck) },_,.inl ?_,⟨w.heap.size,rfl,rfl⟩,?_,IU⟩
  ·simp [execOp,hf.eval hx,Instr.range,BJ hu,Dp hm,newObj,Sem.run]
  ·refine Gk (es:=es) (ck:=ck) (seen:= #[]) ⟨hM,?_,fun p hp=>by cases hp⟩ (AS (.swap _ _ _) (GR (w:=w) (w':= { w with heap:=w.heap.push (.mapIter (some m) ck #[] ck) }) (o:=.mapIter (some m) ck #[] ck) rfl hs'))
   rw [List.filter_eq_self.2 (by intro e _;simp)]
   exact hM.pm
theorem Kd{x:Operand}{m r:Nat}{rest:List (κ × β)}{cur:Option (κ × β)}{R:List Ao}(hK: ∀a b,kf a=kf b ->a=b)(hx:ev L x=some (.pointer (some ⟨r,0,none⟩)))(hE:Ext A (Gt m r kf vf l rest cur) R:=by repeat (first|with_reducible exact Ext.here|with_reducible apply Ext.there)):
  Ac P n ⟨d,.next x false,ty,pos',af,g⟩ L A (fun v A'=>(rest= []/\v= .tuple #[.bool false]/\A'=Gt m r kf vf l [] none::R)\/ ∃k b pre post,rest=pre++(k,b)::post/\v= .tuple #[.bool true,kf k,vf b]/\A'=Gt m r kf vf l (pre++post) (some (k,b))::R):=
 Ew fun a w hf hs=>by
  obtain⟨es,ck,seen,hN,hs'⟩:=Gl (AS hE hs)
  have hm:=Cn hs'
  have hr:=Cn (AS (.swap _ _ _) hs')
  rcases run_next_at (P:=P) w ty r m ck ck seen es ck hr hm hN.mw.born (Nat.le_refl _) with ⟨h0,hrun⟩|⟨e,he,w1,hal,hrun⟩
  ·have hnil:es.toList.filter (fun e=> !seen.contains e.born)= []:=by
    have:(leftOf es seen).toList= []:=by rw [<-List.length_eq_zero_iff];simpa using h0
    unfold leftOf at this;simpa using this
   have hrs:=hN.rs
   rw [hnil,List.map_nil] at hrs
   have hre:rest= []:=by have:=hrs.nil_eq;simpa using this.symm
   refine⟨_,w,_,.inl ?_,.inl ⟨hre,rfl,rfl⟩,?_,Kept.refl w⟩
   ·simp [execOp,hf.eval hx,hrun]
   ·exact Gk ⟨hN.mw,by rw [hnil];exact .refl _,fun p hp=>by cases hp⟩ hs'
  ·have he':e∈es.toList.filter (fun e=> !seen.contains e.born):=by unfold leftOf at he;simpa using he
   obtain⟨k,b,pre,post,hre,hke,hva,hN'⟩:=hN.next hK he'
   have hh:w1.heap=w.heap:=by rcases hal with rfl|rfl <;>rfl
   refine⟨_,ChangeMaps.setBlock w1 r (.mapIter (some m) ck (seen.push e.born) ck),_,.inl ?_,.inr ⟨k,b,pre,post,hre,rfl,rfl⟩,?_,?_⟩
   ·simp [execOp,hf.eval hx,hrun,hke,hva]
   ·refine Gk hN' ?_
    have h1:sat w1 (pt r (.mapIter (some m) ck seen ck)::pt m (.map es ck)::R):=HW hh (AS (.swap _ _ _) hs')
    exact AS (.swap _ _ _) (GP h1)
   ·refine(show Kept w w1 from ?_).trans FN
    rcases hal with rfl|rfl
    ·exact Kept.refl _
    ·exact⟨rfl,rfl,rfl,Nat.le_refl _,Nat.le_succ _⟩
theorem Il{x:Operand}{m r:Nat}{rest:List (κ × β)}{k:κ}{b:β}(hx:ev L x=some (.pointer (some ⟨r,0,none⟩)))(hA:Has A (Gt m r kf vf l rest (some (k,b))):=by repeat (first|with_reducible exact Has.here|with_reducible refine Has.there ?_)):
  Rd P n ⟨d,.entry x,ty,pos',af,g⟩ L A (.tuple #[kf k,vf b]):=fun a w hf hs=>by
 obtain⟨R,p⟩:=hA
 obtain⟨es,ck,seen,hN,hs'⟩:=Gl (AS p hs)
 obtain⟨e,he,q,s0,rfl⟩:=hN.cr _ rfl
 have h:=run_entry_at (P:=P) w r m ck s0 es ck e (Cn (AS (.swap _ _ _) hs')) (Cn hs') he hN.mw.bnd
 simp only [execOp,hf.eval hx,Sem.run_bind,h,Result.andThen_ok,Sem.run_pure]
 rw [show e.key=kf k from congrArg Prod.fst q,show e.val=vf b from congrArg Prod.snd q]
end
end Go.SL
/-
 Keys of maps:numbers of any kind,structs. (Conditions:none;generic over the program.)
-/
namespace Go.SL
open Go.RowKit
section
variable {P : Program}
theorem Ri{kt:TypeId}{q:IntKind}(ik:IntKind)(hu:P.underlying kt=some (.int q)):KeyT P kt (fun k:Int=>Value.int ik k) where
 inj a b h:=by injection h
 find k l w hl:=by
  have key: ∀(l:List MapEntry) (i:Nat),(∀e∈l,∃a,e.key=Value.int ik a) ->Instr.findNow (.int q) (.int ik k) l i=some ((Hb (.int ik k) l).map fun j=>(i+j,(l[j]?.map (·.val)).getD undef)):=by
   intro l
   induction l with
   |nil=>intro i _;rfl
   |cons e r ih=>
    intro i h
    obtain⟨a,he⟩:=h e (by simp)
    classical
    unfold Instr.findNow
    rw [Iw,he]
    simp only [Instr.sameNow,if_true]
    by_cases hk:a=k
    ·subst hk;simp
    ·have h1:(k==a)=false:=by simpa using Ne.symm hk
     have h2: ¬(Value.int ik a=Value.int ik k):=fun e=>hk (by injection e)
     simp only [h1,if_neg h2]
     rw [ih (i+1) (fun x hx=>h x (by simp [hx]))]
     cases Hb (Value.int ik k) r with
     |none=>rfl
     |some j=>simp;omega
  simp only [Instr.findKey,Sem.run_bind,BJ hu,Result.andThen_ok,key l 0 hl,Sem.run_pure,Nat.zero_add]
 check b k w:=by
  have:Instr.checkKey b 10000 kt (.int ik k)=Instr.checkKey b (9999+1) kt (.int ik k):=rfl
  rw [this,Instr.checkKey]
  simp only [Sem.run_bind,BJ hu,Result.andThen_ok,Sem.run_pure]
 stay k:=by simp [Instr.sameBits]
theorem Rh{kt:TypeId}{fs:Array Field}{κ:Type}[DecidableEq κ]{kf:κ ->Value}(hu:P.underlying kt=some (.struct fs))(ha: ∀k,∃xs,kf k= .agg xs)(hi: ∀a b,kf a=kf b ->a=b)
  (he: ∀a b,cP P 10000 kt (kf a) (kf b) (decide (a=b))) (hc: ∀(b:Bool) (k:κ) (w:World),(Instr.checkKey b 10000 kt (kf k)).run P w= .ok () w) (hs: ∀k,Instr.sameBits 10000 (kf k) (kf k)=true):KeyT P kt kf where
 inj:=hi
 find k l w hl:=by
  have ask: ∀(l:List MapEntry) (i:Nat),(∀e∈l,∃a,e.key=kf a) ->(Instr.findAsking kt (kf k) l i).run P w= .ok ((Hb (kf k) l).map fun j=>(i+j,(l[j]?.map (·.val)).getD undef)) w:=by
   intro l
   induction l with
   |nil=>intro i _;rfl
   |cons e r ih=>
    intro i h
    obtain⟨a,hea⟩:=h e (by simp)
    classical
    rw [Instr.findAsking,Iw]
    have heq:(Op.equal kt (kf k) e.key).run P w= .ok (decide (k=a)) w:=by rw [hea];exact he k a w
    simp only [Sem.run_bind,heq,Result.andThen_ok]
    by_cases hk:k=a
    ·subst hk;simp [hea]
    ·have h2: ¬(e.key=kf k):=fun q=>hk (hi _ _ (q.symm.trans hea))
     simp only [hk,decide_false,Bool.false_eq_true,if_false,if_neg h2]
     rw [ih (i+1) (fun x hx=>h x (by simp [hx]))]
     cases Hb (kf k) r with
     |none=>rfl
     |some j=>simp;omega
  cases l with
  |nil=>simp only [Instr.findKey,Sem.run_bind,BJ hu,Result.andThen_ok,Instr.findNow,Sem.run_pure];rfl
  |cons e r=>
   have hn:Instr.findNow (.struct fs) (kf k) (e::r) 0=none:=by
    obtain⟨xs,hx⟩:=ha k
    unfold Instr.findNow
    rw [hx];rfl
   simp only [Instr.findKey,Sem.run_bind,BJ hu,Result.andThen_ok,hn]
   have:=ask (e::r) 0 hl
   simpa only [Nat.zero_add] using this
 check:=hc
 stay:=hs
theorem Oo{n:Nat}{k:IntKind}{a:Int} :Instr.sameBits n (.int k a) (.int k a)=true:=by cases n <;>simp [Instr.sameBits]
theorem Nk{n:Nat}(l:List Value)(h: ∀v∈l,∃k a,v= .int k a):Instr.sameBits (n+1) (.agg l.toArray) (.agg l.toArray)=true:=by
 unfold Instr.sameBits
 simp only [List.size_toArray,beq_self_eq_true,Bool.true_and,List.all_eq_true]
 intro p hp
 have hp':p∈l.zip l:=by simpa using hp
 have:p.1=p.2/\p.1∈l:=by
  clear hp
  induction l with
  |nil=>simp at hp'
  |cons x r ih=>
   rw [List.zip_cons_cons] at hp'
   rcases List.mem_cons.1 hp' with rfl|q
   ·exact⟨rfl,by simp⟩
   ·obtain⟨a,b⟩:=ih (fun v hv=>h v (by simp [hv])) q
    exact⟨a,by simp [b]⟩
 obtain⟨a,b⟩:=p
 obtain⟨h1,h2⟩:=this
 simp only at h1 h2 ⊢
 subst h1
 obtain⟨k,i,rfl⟩:=h a h2
 exact Oo
end
end Go.SL
/-
 Many things owned,one for each of a list:one taken out,laid back,one more. Fewer places read;a list said otherwise. (Conditions:none;generic over the program.)
-/
namespace Go.SL
open Go.RowKit
def star{α:Type}(F:α ->Ao)(l:List α):Ao:=F7 (l.map F)
theorem NF{α:Type} : ∀(l:List α) (i:Nat) (x:α),l[i]? =some x ->l.Perm (x::l.eraseIdx i)
 | [],i,x,h=>by simp at h
 |y::l,0,x,h=>by simp at h;subst h;simp
 |y::l,i+1,x,h=>by
  have:=NF l i x (by simpa using h)
  simp only [List.eraseIdx_cons_succ]
  exact(this.cons y).trans (.swap x y _)
theorem QC{α:Type} : ∀(l:List α) (i:Nat) (y:α),i<l.length ->(l.set i y).Perm (y::l.eraseIdx i)
 | [],i,y,h=>by simp at h
 |x::l,0,y,h=>by simp
 |x::l,i+1,y,h=>by
  have:=QC l i y (by simpa using h)
  simp only [List.set_cons_succ,List.eraseIdx_cons_succ]
  exact(this.cons x).trans (.swap y x _)
section
variable {α : Type} {F : α → Ao} {l : List α} {A R : List Ao} {w : World}
theorem Dz{l l':List α}(p:l.Perm l')(h:sat w (star F l::R)):sat w (star F l'::R):=by
 unfold star at*
 rw [Bb] at h ⊢
 exact AS (List.Perm.append_right R (p.map F)) h
theorem DZ{x:α} :sat w (star F (x::l)::R)<->sat w (F x::star F l::R):=by
 unfold star
 rw [Bb]
 constructor
 ·intro h
  have h2:sat w (F x::(l.map F++R)):=h
  have h3:sat w ((l.map F++R)++ [F x]):=AS (List.perm_append_comm (l₁:= [F x])) h2
  rw [List.append_assoc,<-Bb] at h3
  refine AS ?_ h3
  exact(List.Perm.cons _ (List.perm_append_comm)).trans (.swap _ _ _)
 ·intro h
  have h2:=AS (List.Perm.swap (F7 (l.map F)) (F x) R) h
  rw [Bb] at h2
  refine AS ?_ h2
  exact List.perm_middle
theorem Gb{x:α}(i:Nat)(hx:l[i]? =some x)(h:sat w (star F l::R)):sat w (F x::star F (l.eraseIdx i)::R):=DZ.1 (Dz (NF l i x hx) h)
theorem UK{y:α}(i:Nat)(hi:i<l.length)(h:sat w (F y::star F (l.eraseIdx i)::R)):sat w (star F (l.set i y)::R):=Dz (QC l i y hi).symm (DZ.2 h)
theorem Ga{x:α}(h:sat w (F x::star F l::R)):sat w (star F (l++ [x])::R):=Dz (List.perm_append_comm (l₁:= [x])) (DZ.2 h)
theorem EX(h:sat w R):sat w (star F []::R):=Bb.2 h
end
section
variable {P : Program} {m : Md} {ops : Array Oper} {Q : Exit → Act → World → Prop} {w0 : World} {n : Nat} {rest : List Oper} {L : List (Nat × Value)} {A R : List Ao} {c : Code} {α : Type} {F : α → Ao} {l : List α}
theorem ME(F:α ->Ao)(l:List α)(i:Nat){x:α}(hx:l[i]? =some x)(k:WC P m Q w0 n c L (F x::star F (l.eraseIdx i)::R))(hE:Ext A (star F l) R:=by repeat (first|with_reducible exact Ext.here|with_reducible apply Ext.there)):WC P m Q w0 n c L A:=
 Cz (fun _ h=>Gb i hx (AS hE h)) k
theorem MD(F:α ->Ao)(l:List α)(i:Nat)(y:α){R2:List Ao}(hi:i<l.length)(k:WC P m Q w0 n c L (star F (l.set i y)::R2))(hE:Ext A (star F (l.eraseIdx i)) R:=by repeat (first|with_reducible exact Ext.here|with_reducible apply Ext.there))(hE2:Ext R (F y) R2:=by repeat (first|exact Ext.here|with_reducible apply Ext.there)):WC P m Q w0 n c L A:=
 Cz (fun _ h=>UK i hi (AS ((List.Perm.trans hE (List.Perm.cons _ hE2)).trans (.swap _ _ _)) h)) k
theorem MC(F:α ->Ao)(l:List α)(y:α){R2:List Ao}(k:WC P m Q w0 n c L (star F (l++ [y])::R2))(hE:Ext A (star F l) R:=by repeat (first|with_reducible exact Ext.here|with_reducible apply Ext.there))(hE2:Ext R (F y) R2:=by repeat (first|exact Ext.here|with_reducible apply Ext.there)):WC P m Q w0 n c L A:=
 Cz (fun _ h=>Ga (AS ((List.Perm.trans hE (List.Perm.cons _ hE2)).trans (.swap _ _ _)) h)) k
theorem Gq(F:α ->Ao)(k:WC P m Q w0 n c L (star F []::A)):WC P m Q w0 n c L A:=Cz (fun _ h=>EX h) k
theorem Sv.star{β:Type}{l:List α}{x:α}(i:Nat)(hx:l[i]? =some x){v:Value}{e:Nat}{f:β ->List Value}{bs:List β}{ao:Option Addr}{cap:Nat}(h:Sv [F x] v e f bs ao cap):Sv [star F l] v e f bs ao cap:=
 h.imp fun w hs=>Sub.sat (B:= [F x]) ⟨_,.refl _⟩ (Gb i hx hs)
end
theorem ae{α β:Type}{a:Option Nat}{cap e:Nat}{T:TypeId}{f:α ->List Value}{g:β ->α}{l:List β}(hf: ∀x,(f x).length=e): ∀hp,Aa a cap e T (fun x=>f (g x)) l hp ->Aa a cap e T f (l.map g) hp:=by
 intro hp
 cases a with
 |none=>rintro⟨⟨h1,h2⟩,h3⟩;subst h2;exact⟨⟨h1,rfl⟩,h3⟩
 |some b=>rintro⟨cur,⟨h1,h2,h3,h4,h5⟩,h6⟩;exact⟨cur,⟨hf,h2,by simpa using h3,h4,by rw [List.length_map,h5,List.flatMap_map]⟩,h6⟩
theorem VI{α:Type}{a:Option Nat}{cap e:Nat}{T:TypeId}{f:α ->List Value}{l l2:List α} : ∀h,Aa a cap e T f (l++l2) h ->Aa a cap e T f l h:=by
 intro h hh
 have:=YG (a:=a) (cap:=cap) (e:=e) (T:=T) (f:=f) (l:=l++l2) l.length h hh
 rwa [List.take_left] at this
end Go.SL
/-
 Maps written in a literal;keys seen through a map;min and max of whole numbers;one assertion put for another. (Conditions:none;generic over the program.)
-/
namespace Go.SL
open Go.RowKit
section
variable {P : Program}
theorem KeyT.comp{kt:TypeId}{κ κ':Type}{kf:κ ->Value}(h:KeyT P kt kf)(g:κ' ->κ)(hg: ∀a b,g a=g b ->a=b):KeyT P kt (fun x=>kf (g x)) where
 inj a b e:=hg _ _ (h.inj _ _ e)
 find k l w hl:=h.find (g k) l w (fun e he=>let ⟨a,ha⟩:=hl e he;⟨g a,ha⟩)
 check b k w:=h.check b (g k) w
 stay k:=h.stay (g k)
end
section
variable {P : Program} {κ β : Type} [DecidableEq κ] {kf : κ → Value} {vf : β → Value} {l : List (κ × β)}
variable {n : Nat} {L : List (Nat × Value)} {A : List Ao} {d : Option Tmp} {ty : TypeId} {pos' : String} {af : Array Edge} {g : Option (Nat × Bool)}
theorem Ep{t kt et:TypeId}{x y z:Operand}{m:Nat}{k:κ}{R:List Ao}(b:β)(hK:KeyT P kt kf)(hx:ev L x=some (.map (some m)))(hy:ev L y=some (kf k))(hz:ev L z=some (vf b))(hu:P.underlying t=some (.map kt et))
  (hE:Ext A (Bs m kf vf l) R:=by repeat (first|with_reducible exact Ext.here|with_reducible apply Ext.there)):Ac P n ⟨d,.insert t x y z,ty,pos',af,g⟩ L A (fun _ A'=>A'=Bs m kf vf (EQ k b l)::R):=
 Ew fun a w hf hs=>by
  obtain⟨es,ck,hM,hs'⟩:=G3 (AS hE hs)
  have hm:=Cn hs'
  cases hp:Hb (kf k) es.toList with
  |some j=>
   obtain⟨e,he,hke⟩:=Gc hp
   have he':es[j]? =some e:=by simpa using he
   refine⟨_,{ w with heap:=w.heap.setIfInBounds m (.map (es.modify j fun e=> { e with key:=kf k,val:=vf b }) ck) },_,.inr ⟨?_,rfl⟩,rfl,?_,FN⟩
   ·simp [execOp,hf.eval hx,hf.eval hy,hf.eval hz,Instr.mapUpdate,BJ hu,Dp hm,hK.check,hK.find k _ _ hM.keys,hp,he',Instr.keyThatStays,hke,hK.stay,EY hm]
   ·refine FK ?_ (GP hs')
    have:(es.modify j fun e=> { e with key:=kf k,val:=vf b }).toList=es.toList.set j { key:=kf k,val:=vf b,born:=e.born } :=by
     rw [Array.toList_modify,Jd he]
    rw [this]
    exact hM.set hK.inj he hke
  |none=>
   refine⟨_,{ w with heap:=w.heap.setIfInBounds m (.map (es.push { key:=kf k,val:=vf b,born:=ck }) (ck+1)) },_,.inr ⟨?_,rfl⟩,rfl,?_,FN⟩
   ·simp [execOp,hf.eval hx,hf.eval hy,hf.eval hz,Instr.mapUpdate,BJ hu,Dp hm,hK.check,hK.find k _ _ hM.keys,hp,EY hm]
   ·refine FK ?_ (GP hs')
    rw [Array.toList_push]
    exact hM.push b hp
theorem eW{x y:Operand}{ts:Array TypeId}{i j:Int}{q:IntKind}(hx:ev L x=some (.int q i))(hy:ev L y=some (.int q j)):Rd P n ⟨d,.call ⟨.builtin .max, #[x,y],ts⟩,ty,pos',af,g⟩ L A (.int q (max i j)):=fun a w hf hs=>by
 have e:(if j>i then j else i)=max i j:=by split <;>omega
 have h:Builtin.max2 (.int q i) (.int q j)=(pure (.int q (max i j)):Sem Value):=by
  show (pure (Value.int q (if j>i then j else i)):Sem Value)=_
  rw [e]
 simp [execOp,resolve,invoke,Go.builtin,hf.eval hx,hf.eval hy,Builtin.max_,h]
end
section
variable {P : Program} {m : Md} {ops : Array Oper} {Q : Exit → Act → World → Prop} {w0 : World} {n : Nat} {rest : List Oper} {L : List (Nat × Value)} {A R : List Ao} {c : Code} {X Y : Ao}
theorem Dl(X Y:Ao)(h: ∀w R,sat w (X::R) ->sat w (Y::R))(k:WL P m ops Q w0 n rest L (Y::R))(hE:Ext A X R:=by repeat (first|with_reducible exact Ext.here|with_reducible apply Ext.there)):WL P m ops Q w0 n rest L A:=
 ER (fun _ hs=>h _ _ (AS hE hs)) k
theorem eO(X Y:Ao)(h: ∀w R,sat w (X::R) ->sat w (Y::R))(k:WC P m Q w0 n c L (Y::R))(hE:Ext A X R:=by repeat (first|with_reducible exact Ext.here|with_reducible apply Ext.there)):WC P m Q w0 n c L A:=
 Cz (fun _ hs=>h _ _ (AS hE hs)) k
theorem HJ{K:Act ->World ->Prop}(X Y:Ao)(h: ∀w R,sat w (X::R) ->sat w (Y::R))(k:Ps m K w0 n L (Y::R))(hE:Ext A X R:=by repeat (first|with_reducible exact Ext.here|with_reducible apply Ext.there)):Ps m K w0 n L A:=
 I3 (fun _ hs=>h _ _ (AS hE hs)) k
end
end Go.SL
/-
 A server's shares and leases as they lie:what is owned of each,and the steps of going through them. (Conditions:none;no program in sight.)
-/
set_option maxRecDepth 20000
namespace Go.SvM
open Go.SL Go.ShM Go.RowKit
structure En where
 e:Kp
 p:Nat
 a:Option Nat
 cap:Nat
 m:Nat
def Dt(k:Ky):List Value:=k.1.l.flatMap (eU .u8)++ [.int .i64 k.2]
def By(k:Ky):Value:=.agg (Dt k).toArray
def Dn(w:Bv):Value:=.int .u32 (w.toNat:Int)
def Cc(p:Nat):Value:=.pointer (some ⟨p,0,none⟩)
def DY(i:Int):Value:=.int .i64 i
theorem Aw(k:Ky):(Dt k).length=17:=by unfold Dt;rw [List.length_append,C7,k.1.h];rfl
theorem Jf(k:Ky):((Dt k).drop 0).take 16=k.1.l.flatMap (eU .u8):=by unfold Dt;exact List.take_left' (by rw [C7,k.1.h])
theorem GU(k:Ky):(Dt k)[16]? =some (.int .i64 k.2):=by unfold Dt;rw [List.getElem?_append_right (by rw [C7,k.1.h];exact Nat.le_refl _),C7,k.1.h];rfl
theorem encK:Enc Dt 17:=⟨Aw,fun k v hv=>by
 unfold Dt at hv
 rcases List.mem_append.1 hv with h|h
 ·obtain⟨a,_,ha⟩:=List.mem_flatMap.1 h
  exact(Em .u8).one a v ha
 ·rw [List.mem_singleton] at h;subst h;rfl⟩
theorem OG: ∀ {a b:List B8},a.flatMap (eU .u8 (w:=8))=b.flatMap (eU .u8 (w:=8)) ->a=b
 | [],[],_=>rfl
 | [],y::b,h=>by simp [eU] at h
 |x::a,[],h=>by simp [eU] at h
 |x::a,y::b,h=>by
  rw [List.flatMap_cons,List.flatMap_cons] at h
  simp only [eU,List.cons_append,List.nil_append,List.cons.injEq,Value.int.injEq,true_and] at h
  have h1:x=y:=BitVec.eq_of_toNat_eq (by omega)
  rw [h1,OG h.2]
theorem KH(a b:Ky)(h:By a=By b):a=b:=by
 have h1:Dt a=Dt b:=by
  unfold By at h
  have:=Value.agg.inj h
  exact List.toArray_inj this
 have h2:a.1.l=b.1.l:=OG (by rw [<-Jf a,<-Jf b,h1])
 have h3:a.2=b.2:=by
  have e:=GU a
  rw [h1,GU b] at e
  simpa using e.symm
 obtain⟨⟨l,hl⟩,n⟩:=a
 obtain⟨⟨l',hl'⟩,n'⟩:=b
 simp only at h2 h3
 subst h2;subst h3;rfl
theorem P7(a b:Bv)(h:Dn a=Dn b):a=b:=by
 unfold Dn at h
 have:=(Value.int.inj h).2
 exact BitVec.eq_of_toNat_eq (by omega)
theorem Yz(a b:Nat)(h:Cc a=Cc b):a=b:=by unfold Cc at h;simpa using h
theorem Z0(a b:Int)(h:DY a=DY b):a=b:=by unfold DY at h;simpa using h
def En.kp(x:En):Ky × Nat:=(x.e.key,x.p)
def En.put(x:En)(e:Kp):En:=⟨e,x.p,x.a,x.cap,x.m⟩
def Cb(tK tU:TypeId)(x:En):Ao:=F7 [cl x.p tK [sl x.a x.e.b.length x.cap,.map (some x.m)],Aa x.a x.cap 1 tU (eU .u8 (w:=8)) x.e.b,Bs x.m Dn DY x.e.ls]
def Ap(l:List En):Nat:=C0 (l.map En.e)
def Dd(t:Int)(x:En):Option En:=(LK t x.e).map x.put
theorem Gg{l l':List En}(p:l.Perm l'):Ap l=Ap l':=MN (p.map _)
theorem CZ(x:En)(l:List En):Ap (x::l)=x.e.b.length+Ap l:=by unfold Ap;rw [List.map_cons,E1]
theorem Cs(l l':List En):Ap (l++l')=Ap l+Ap l':=by unfold Ap;rw [List.map_append,Fe]
theorem Lv(l:List En):C5 (l.map En.kp)=(l.map En.e).map Kp.key:=by unfold C5;rw [List.map_map,List.map_map];rfl
theorem Ju(t:Int)(l:List En):(l.filterMap (Dd t)).map En.e=BW t (l.map En.e):=by
 unfold BW
 rw [List.map_filterMap,List.filterMap_map]
 congr 1
 funext x
 simp only [Dd,Option.map_map,Function.comp]
 cases LK t x.e <;>rfl
theorem O4{α β:Type}{f:α ->β}{l:List α}{p q:List β}{y:β}(h:l.map f=p++y::q): ∃a x b,l=a++x::b/\a.map f=p/\f x=y/\b.map f=q:=by
 obtain⟨a,r,rfl,h1,h2⟩:=List.map_eq_append_iff.1 h
 cases r with
 |nil=>cases h2
 |cons x b=>rw [List.map_cons] at h2;cases h2;exact⟨a,x,b,rfl,h1,rfl,rfl⟩
theorem Zw{α β:Type}{f:α ->Option β}{a b:List α}{x:α}{D R:List β}(h:(D++(a++x::b).filterMap f).Perm R):(((f x).toList++D)++(a++b).filterMap f).Perm R:=by
 refine List.Perm.trans ?_ h
 rw [List.filterMap_append,List.filterMap_append,List.filterMap_cons]
 cases f x with
 |none=>exact .refl _
 |some y=>
  simp only [Option.toList_some,List.cons_append,List.nil_append]
  rw [<-List.append_assoc,<-List.append_assoc]
  exact(List.perm_middle (l₁:=D++a.filterMap f) (a:=y) (l₂:=b.filterMap f)).symm
theorem Ui{t u:Int}{w:Bv}{a b:List Ls}(h:u<t):D1 t (a++(w,u)::b)=D1 t (a++b):=by
 unfold D1
 rw [List.filter_append,List.filter_append,List.filter_cons_of_neg (by simpa using h)]
theorem Uh{t u:Int}{w:Bv}{a b D R:List Ls}(h:t<=u)(k:(D++D1 t (a++(w,u)::b)).Perm R):(((w,u)::D)++D1 t (a++b)).Perm R:=by
 refine List.Perm.trans ?_ k
 unfold D1
 rw [List.filter_append,List.filter_append,List.filter_cons_of_pos (by simpa using h),<-List.append_assoc,<-List.append_assoc,List.cons_append,List.cons_append]
 exact(List.perm_middle (l₁:=D++a.filter _)).symm
theorem todo_perm{α:Type}{pre post D:List α}{x:α} :(D++(pre++x::post)).Perm (x::(D++(pre++post))):=by
 rw [<-List.append_assoc,<-List.append_assoc];exact List.perm_middle
theorem OK{κ β:Type}[DecidableEq κ]{k:κ}{b:β}{pre post D:List (κ × β)}(hn:(C5 (D++(pre++(k,b)::post))).Nodup):(CC k (D++(pre++(k,b)::post))).Perm (D++(pre++post)):=
 ((LA hn (b:=b) (k:=k) (by simp)).symm.trans todo_perm).cons_inv
theorem d6{a b:Ix}(h:a.l=b.l):a=b:=by
 obtain⟨x,hx⟩:=a
 obtain⟨y,hy⟩:=b
 simp only at h
 subst h;rfl
theorem JW{ix:Ix}{p:Kp ->Bool}{a b:List En}{x:En}{out R:List Int}(h:(out++B9 ix p ((a++x::b).map En.e)).Perm R):((if (decide (x.e.ix=ix) && p x.e)=true then out++ [x.e.num] else out)++B9 ix p ((a++b).map En.e)).Perm R:=by
 refine List.Perm.trans ?_ h
 unfold B9
 rw [List.map_append,List.map_append,List.map_cons,List.filter_append,List.filter_append,List.filter_cons,List.map_append,List.map_append]
 split
 ·rw [List.map_cons,List.append_assoc]
  refine List.Perm.append_left _ ?_
  exact(List.perm_middle (l₁:=((a.map En.e).filter _).map Kp.num)).symm
 ·exact .refl _
theorem TA{κ β:Type}{k:κ}{b:β}{pre post:List (κ × β)}(h:(C5 (pre++(k,b)::post)).Nodup):k ∉ C5 (pre++post):=by
 unfold C5 at*
 rw [List.map_append,List.map_cons] at h
 have h1:=(List.perm_middle.nodup_iff).1 h
 rw [List.map_append]
 exact(List.nodup_cons.1 h1).1
theorem EH{κ β:Type}[DecidableEq κ]{kf:κ ->Value}{vf:β ->Value}{m:Nat}{l l':List (κ × β)}(p:l.Perm l'): ∀w R,sat w (Bs m kf vf l::R) ->sat w (Bs m kf vf l'::R):=fun _ _ h=>QW p h
theorem Jz{κ β:Type}[DecidableEq κ]{kf:κ ->Value}{vf:β ->Value}{m r:Nat}{l l' rest:List (κ × β)}{cur:Option (κ × β)}(p:l.Perm l'): ∀w R,sat w (Gt m r kf vf l rest cur::R) ->sat w (Gt m r kf vf l' rest none::R):=fun _ _ h=>TL (QY p (.refl _) h)
theorem KA{κ β:Type}[DecidableEq κ]{kf:κ ->Value}{vf:β ->Value}{m r:Nat}{l l' rest:List (κ × β)}{cur:Option (κ × β)}(p:l.Perm l'): ∀w R,sat w (Gt m r kf vf l rest cur::R) ->sat w (Bs m kf vf l'::R):=fun _ _ h=>QW p (Wy h)
theorem Fy{α:Type}{F:α ->Ao}{l l':List α}(p:l.Perm l'): ∀w R,sat w (star F l::R) ->sat w (star F l'::R):=fun _ _ h=>Dz p h
theorem QX{κ β:Type}[DecidableEq κ]{kf:κ ->Value}{vf:β ->Value}{m r:Nat}{l l' rest rest':List (κ × β)}{cur:Option (κ × β)}(p:l.Perm l')(q:rest=rest'): ∀w R,sat w (Gt m r kf vf l rest cur::R) ->sat w (Gt m r kf vf l' rest' none::R):=fun _ _ h=>by subst q;exact TL (QY p (.refl _) h)
theorem T8{x:En}{a b D:List En} :Ap (D++(a++x::b))=x.e.b.length+Ap (D++(a++b)):=by
 rw [Gg todo_perm,CZ]
theorem O8{x:En}{a b D:List En}{ls:List Ls} :(if ls= [] then Ap (D++(a++x::b)) -x.e.b.length else Ap (D++(a++x::b)))=Ap (((DR x.e ls).map x.put).toList++D++(a++b)):=by
 rw [T8]
 unfold DR
 by_cases h:ls= []
 ·rw [if_pos h,if_pos h];simp
 ·rw [if_neg h,if_neg h]
  simp only [Option.map_some,Option.toList_some,List.cons_append,List.nil_append]
  rw [CZ];rfl
theorem XN{x:En}{a b D:List En}{ls:List Ls}(hn:(C5 ((D++(a++x::b)).map En.kp)).Nodup):(if ls= [] then CC x.e.key ((D++(a++x::b)).map En.kp) else (D++(a++x::b)).map En.kp).Perm ((((DR x.e ls).map x.put).toList++D++(a++b)).map En.kp):=by
 unfold DR
 by_cases h:ls= []
 ·rw [if_pos h,if_pos h]
  simp only [Option.map_none,Option.toList_none,List.nil_append,List.map_append,List.map_cons] at hn ⊢
  exact OK (b:=x.p) hn
 ·rw [if_neg h,if_neg h]
  simp only [Option.map_some,Option.toList_some,List.cons_append,List.nil_append,List.map_append,List.map_cons]
  exact todo_perm
theorem Tn{tK tU:TypeId}{x:En}{ls:List Ls}{R:List En}{S:List Ao}{w:World}
  (h:sat w (cl x.p tK [sl x.a x.e.b.length x.cap,.map (some x.m)]::Aa x.a x.cap 1 tU (eU .u8 (w:=8)) x.e.b::Bs x.m Dn DY ls::star (Cb tK tU) R::S)):
  sat w (star (Cb tK tU) (((DR x.e ls).map x.put).toList++R)::S):=by
 unfold DR
 by_cases hl:ls= []
 ·rw [if_pos hl]
  exact EB (EB (EB h))
 ·rw [if_neg hl]
  simp only [Option.map_some,Option.toList_some,List.cons_append,List.nil_append]
  refine DZ.2 ?_
  unfold Cb
  rw [Bb]
  exact h
theorem Ua{tK tU:TypeId}{x:En}{D a b:List En}{S:List Ao}{w:World}(h:sat w (star (Cb tK tU) (D++(a++x::b))::S)):
  sat w (cl x.p tK [sl x.a x.e.b.length x.cap,.map (some x.m)]::Aa x.a x.cap 1 tU (eU .u8 (w:=8)) x.e.b::Bs x.m Dn DY x.e.ls::star (Cb tK tU) (D++(a++b))::S):=by
 have h2:=DZ.1 (Dz todo_perm h)
 unfold Cb at h2
 rw [Bb] at h2
 exact h2
section
variable {P : Program} {m : Md} {ops : Array Oper} {Q : Exit → Act → World → Prop} {w0 : World} {n : Nat} {rest : List Oper} {L : List (Nat × Value)} {A R : List Ao} {c : Code}
theorem Gj{tK tU:TypeId}{x:En}{R0:List En}{S:List Ao}{w:World} :sat w (star (Cb tK tU) (x::R0)::S)<->sat w (cl x.p tK [sl x.a x.e.b.length x.cap,.map (some x.m)]::Aa x.a x.cap 1 tU (eU .u8 (w:=8)) x.e.b::Bs x.m Dn DY x.e.ls::star (Cb tK tU) R0::S):=by
 rw [DZ]
 unfold Cb
 rw [Bb]
 exact Iff.rfl
theorem VX(tK tU:TypeId)(x:En)(R0:List En)(k:WL P m ops Q w0 n rest L (cl x.p tK [sl x.a x.e.b.length x.cap,.map (some x.m)]::Aa x.a x.cap 1 tU (eU .u8 (w:=8)) x.e.b::Bs x.m Dn DY x.e.ls::star (Cb tK tU) R0::R))(hE:Ext A (star (Cb tK tU) (x::R0)) R:=by repeat (first|with_reducible exact Ext.here|with_reducible apply Ext.there)):WL P m ops Q w0 n rest L A:=
 ER (fun _ hs=>Gj.1 (AS hE hs)) k
theorem VY(tK tU:TypeId)(x:En)(R0:List En)(k:WL P m ops Q w0 n rest L (star (Cb tK tU) (x::R0)::R))(hG:Gv A [cl x.p tK [sl x.a x.e.b.length x.cap,.map (some x.m)],Aa x.a x.cap 1 tU (eU .u8 (w:=8)) x.e.b,Bs x.m Dn DY x.e.ls,star (Cb tK tU) R0] R:=by repeat (first|with_reducible exact Gv.nil|(with_reducible apply Gv.cons;· (repeat (first|with_reducible exact Ext.here|with_reducible apply Ext.there))))):WL P m ops Q w0 n rest L A:=
 ER (fun _ hs=>Gj.2 (AS hG hs)) k
theorem YX(tK tU:TypeId)(D a:List En)(x:En)(b:List En)(k:WL P m ops Q w0 n rest L (cl x.p tK [sl x.a x.e.b.length x.cap,.map (some x.m)]::Aa x.a x.cap 1 tU (eU .u8 (w:=8)) x.e.b::Bs x.m Dn DY x.e.ls::star (Cb tK tU) (D++(a++b))::R))(hE:Ext A (star (Cb tK tU) (D++(a++x::b))) R:=by repeat (first|with_reducible exact Ext.here|with_reducible apply Ext.there)):WL P m ops Q w0 n rest L A:=
 ER (fun _ hs=>Ua (AS hE hs)) k
theorem VV(tK tU:TypeId)(x:En)(ls:List Ls)(R0:List En)(k:WL P m ops Q w0 n rest L (star (Cb tK tU) (((DR x.e ls).map x.put).toList++R0)::R))(hG:Gv A [cl x.p tK [sl x.a x.e.b.length x.cap,.map (some x.m)],Aa x.a x.cap 1 tU (eU .u8 (w:=8)) x.e.b,Bs x.m Dn DY ls,star (Cb tK tU) R0] R:=by repeat (first|with_reducible exact Gv.nil|(with_reducible apply Gv.cons;· (repeat (first|with_reducible exact Ext.here|with_reducible apply Ext.there))))):WL P m ops Q w0 n rest L A:=
 ER (fun _ hs=>Tn (AS hG hs)) k
end
end Go.SvM
/-
 Keys that are structs of numbers and arrays of numbers:how a map finds them. (Conditions:none;generic over the program.)
-/
namespace Go.SL
open Go.RowKit
section
variable {P : Program}
theorem Oq{α:Type}(f:α ->Sem Unit): ∀(l:List α),(∀x∈l,∀w,(f x).run P w= .ok () w) -> ∀w,(forIn l PUnit.unit (fun x _=>(f x >>=fun _=>pure (ForInStep.yield PUnit.unit)):α ->PUnit ->Sem (ForInStep PUnit))).run P w= .ok PUnit.unit w
 | [],_,w=>by simp
 |x::l,h,w=>by
  have ih:=Oq f l (fun y hy=>h y (List.mem_cons_of_mem _ hy))
  simp only [List.forIn_cons,Sem.run_bind,h x (by simp),Result.andThen_ok,Sem.run_pure,ih]
theorem OM{b:Bool}{n:Nat}{t:TypeId}{q k:IntKind}{i:Int}(hu:P.underlying t=some (.int q))(w:World):(Instr.checkKey b (n+1) t (.int k i)).run P w= .ok () w:=by
 rw [Instr.checkKey]
 simp only [Sem.run_bind,BJ hu,Result.andThen_ok,Sem.run_pure]
theorem Sl{b:Bool}{n m:Nat}{t e:TypeId}{k:IntKind}{l:List Int}(h:aj P t=some (m,e))(hl:l.length=m)(w:World):(Instr.checkKey b (n+2) t (.agg (l.map (Value.int k)).toArray)).run P w= .ok () w:=by
 obtain⟨q,i,hu,hq,hi,hs,_⟩:=Ka h
 have ht:tk P e=some none:=by unfold tk;rw [hq];simp [hi]
 have hz: ∀w,(Go.sizeOf e).run P w= .ok 1 w:=CY (show sz P e=some 1 by simp [sz,hi,hs])
 rw [Instr.checkKey]
 simp only [Sem.run_bind,BJ hu,Result.andThen_ok]
 rw [Std.Legacy.Range.forIn_eq_forIn_range']
 have:=Oq (P:=P) (fun i=>(Go.sizeOf e >>=fun s=>part e (l.map (Value.int k)).toArray (i*s) >>=fun v=>Instr.checkKey b (n+1) e v)) (List.range' 0 m) (fun i hi w=>by
  have hi':i<m:=by simpa using hi
  simp only [Sem.run_bind,hz,Result.andThen_ok,F9 ht (show (l.map (Value.int k))[i*1]? =some (.int k (l[i]'(by omega))) from by simp [hl,hi']),OM hq]) w
 simp only [Std.Legacy.Range.size,Nat.sub_zero,Nat.add_sub_cancel,Nat.div_one] at*
 have e1: ∀(r:Result PUnit),r= .ok PUnit.unit w ->(r.andThen fun a w'=>Sem.run P (pure ()) w')= .ok () w:=fun r h=>by rw [h];rfl
 refine e1 _ ?_
 simpa [bind_assoc] using this
theorem PZ{b:Bool}{n:Nat}{t:TypeId}{fs:Array Field}{cs:List Value}(hu:P.underlying t=some (.struct fs))(hf: ∀f∈fs.toList,∀w,(part f.type cs.toArray f.offset >>=fun v=>Instr.checkKey b n f.type v).run P w= .ok () w)(w:World):(Instr.checkKey b (n+1) t (.agg cs.toArray)).run P w= .ok () w:=by
 rw [Instr.checkKey]
 simp only [Sem.run_bind,BJ hu,Result.andThen_ok]
 rw [<-Array.forIn_toList]
 have:=Oq (P:=P) (fun f:Field=>if f.name≠ "_" then (part f.type cs.toArray f.offset >>=fun v=>Instr.checkKey b n f.type v) else pure ()) fs.toList (fun f hfm w=>by
  split
  ·exact hf f hfm w
  ·simp) w
 have e1: ∀(r:Result PUnit),r= .ok PUnit.unit w ->(r.andThen fun a w'=>Sem.run P (pure ()) w')= .ok () w:=fun r h=>by rw [h];rfl
 refine e1 _ ?_
 refine Eq.trans ?_ this
 congr 2
 funext f u
 split <;>simp [bind_assoc]
end
end Go.SL
/-
 A text's letters as a list of bytes:a new block,marked at its end. (Conditions:none;generic over the program.)
-/
namespace Go.SL
open Go.RowKit
def ef(s:ByteArray):List (BitVec 8):=s.data.toList.map UInt8.toBitVec
end Go.SL
/-
 append,the elder slice being kept:it may lie in the new one's array,or in its own. (Conditions:none;generic over the program.)
-/
namespace Go.SL
open Go.RowKit
section
variable {P : Program}
theorem QF{A:List Ao}{α:Type}{t t' ty et:TypeId}{ti:TypeInfo}{z:Value}{D:TypeDesc}{e by_:Nat}(ht:P.underlying t=some (.slice et))(ht':P.underlying t'=some D)(hD: ∀k,D≠ .int k)(hi:P.info? et=some ti)(hz:ti.zero=some z)(he:ti.size=e)(hb:ti.bytes=by_)
    (hzc:z.cells.size=e) {a:Option Nat} {cap:Nat} {f:α ->List Value} {l l2:List α} {x:Value} {R:List Ao} (hf: ∀x,(f x).length=e) (hsrc:cJ P A e l2.length x (l2.flatMap f)) (hE:Ext A (Aa a cap e et f l) R)
    (h1: ∀u∈l2,∀v∈f u,v.oneCell'=true) (hfit:(l.length+l2.length)*by_<=140737488355328) (hml:l.length+l2.length<=maxLen) {w:World} (hs:sat w A):
    ∃a' cap' w',(Builtin.append_ #[t,t'] ty #[sl a l.length cap,x]).run P w= .ok (sl a' (l++l2).length cap') w'/\((a'=a/\cap'=cap/\sat w' (Aa a cap e et f (l++l2)::R))\/sat w' (Aa a' cap' e et f (l++l2)::Aa a cap e et f l::R))/\Kept w w':=by
  subst he;subst hb
  have hs0:=AS hE hs
  have hlenf:(l.flatMap f).length=l.length*ti.size:=Ec hf l
  have hlen2:(l2.flatMap f).length=l2.length*ti.size:=Ec hf l2
  -- what stands in the Lo array
  by_cases hroom:l.length+l2.length<=cap
  · --there is room
    cases a with
    |none=>
      obtain⟨hc,hl⟩:=FX (A:=Aa none cap ti.size et f l::R) Has.here hs0
      have hl2:l2= []:=by
       have:l2.length=0:=by omega
       exact List.eq_nil_of_length_eq_zero this
      subst hc;subst hl;subst hl2
      refine⟨none,0,w,?_,.inl ⟨rfl,rfl,by simpa using hs0⟩,.refl _⟩
      have hl0:=hsrc.2.1 w
      have hf0:=hsrc.2.2 w hs
      simp only [List.length_nil,List.flatMap_nil] at hl0 hf0
      simp only [Builtin.append_,sl,List.getElem?_toArray,List.getElem?_cons_zero,List.getElem?_cons_succ,Sem.run_bind,BJ ht,Result.andThen_ok,CY (show sz P et=some ti.size by simp [sz,hi]),BJ ht',Sem.run_pure]
      cases D <;>first|exact absurd rfl (hD _)|simp [hl0,hf0]
    |some g=>
      unfold Aa at hs0
      obtain⟨cur,h2⟩:=E3.1 hs0
      obtain⟨⟨hfe,hcl,hle,hm,htk⟩,h3⟩:=Co.1 h2
      have hmul:l.length*ti.size+l2.length*ti.size<=cap*ti.size:=by rw [<-Nat.add_mul];exact Nat.mul_le_mul_right _ hroom
      obtain⟨w',hr,hh,ho,hk⟩:=FG (P:=P) (i:=l.length*ti.size) (l2.flatMap f) 0 cur w (Cn h3) (by rw [hlen2,hcl];omega) (fun v hv=>by obtain⟨u,hu,hv⟩:=List.mem_flatMap.1 hv;exact h1 u hu v hv)
      refine⟨some g,cap,w',?_,.inl ⟨rfl,rfl,?_⟩,hk⟩
      · have hl0:=hsrc.2.1 w
        have hf0:=hsrc.2.2 w hs
        simp only [Builtin.append_,sl,List.getElem?_toArray,List.getElem?_cons_zero,List.getElem?_cons_succ,Sem.run_bind,BJ ht,Result.andThen_ok,CY (show sz P et=some ti.size by simp [sz,hi]),BJ ht',Sem.run_pure]
        cases D <;>first|exact absurd rfl (hD _)|simp [hl0,hf0,hroom,EL,hr,List.length_append]
      · unfold Aa
        refine E3.2 ⟨cur.take (l.length*ti.size)++l2.flatMap f++cur.drop (l.length*ti.size+(l2.flatMap f).length),Co.2 ⟨⟨hfe,?_,by simpa using hroom,hm,?_⟩,?_⟩⟩
        · simp only [List.length_append,List.length_take,List.length_drop,hlen2,hcl];omega
        · rw [List.length_append,Nat.add_mul,htk,List.flatMap_append]
          exact List.take_left' (by rw [List.length_append,hlenf,hlen2])
        · refine Fq (o:=.cells cur.toArray et (0,0)) ?_ (fun c hc x hx=>by rw [ho c hc];exact hx) h3
          simpa using hh
  · --a new array
    have hgrow:cap<l.length+l2.length:=by omega
    have hn: ¬(l.length+l2.length<=cap):=hroom
    have h63': ¬(9223372036854775807<((l.length:Int)+(l2.length:Int))):=by simp only [maxLen] at hml;omega
    have h48': ¬(281474976710656<Builtin.nextslicecap (l.length+l2.length) cap*ti.bytes):=by have:=growslice_fits hgrow hfit;omega
    have hsd:sat w.drew A:=HW (w:=w) rfl hs
    have hl0:=hsrc.2.1
    have hf0:=hsrc.2.2 w.drew hsd
    have hold:(Builtin.firstCells ti.size l.length (sl a l.length cap)).run P w.drew= .ok (l.flatMap f).toArray w.drew:=by
      cases a with
      |none=>have:=(FX (A:=Aa none cap ti.size et f l::R) Has.here hs0).2;subst this;simp [sl,Builtin.firstCells]
      |some g=>exact(Pl (Sy (A:=A) ⟨R,hE⟩ hf (fun h=>by cases h) (MB (A:=A) ⟨R,hE⟩ hsd))).2.2 _ hsd
    have hge:=grownCap_ge w (l.length+l2.length) cap et
    have hcm:=grownCap_le_maxLen w (l.length+l2.length) cap et hml
    refine⟨some w.heap.size,grownCap w (l.length+l2.length) cap et,w.drew.alloc (.cells ((l.flatMap f).toArray++(l2.flatMap f).toArray++Builtin.zeroCells z.cells (grownCap w (l.length+l2.length) cap et -(l.length+l2.length))) et),?_,.inr ?_,⟨rfl,rfl,rfl,by simp,Nat.le_succ _⟩⟩
    · have hold': ∀w',w'=w.drew ->(Builtin.firstCells ti.size l.length (.slice (a.map fun g=>⟨g,0,none⟩) l.length cap)).run P w'= .ok (l.flatMap f).toArray w':=fun w' e=>by rw [e];exact hold
      simp only [sl,Builtin.append_,List.getElem?_toArray,List.getElem?_cons_zero,List.getElem?_cons_succ,Sem.run_bind,BJ ht,Result.andThen_ok,CY (show sz P et=some ti.size by simp [sz,hi]),BJ ht',Sem.run_pure]
      cases D <;>first
        |exact absurd rfl (hD _)
        |(simp [hl0,hn,h63',h48',typeInfo,zeroValue,hi,hz,Question.forced,hold',hf0,newRow,grownCap];congr 2;apply Array.ext';simp [List.append_assoc])
    · have hs2:sat w.drew (Aa a cap ti.size et f l::R):=HW (w:=w) rfl hs0
      have:=GR (w:=w.drew) (w':=w.drew.alloc (.cells ((l.flatMap f).toArray++(l2.flatMap f).toArray++Builtin.zeroCells z.cells (grownCap w (l.length+l2.length) cap et -(l.length+l2.length))) et)) rfl hs2
      unfold Aa
      refine E3.2 ⟨l.flatMap f++l2.flatMap f++(Builtin.zeroCells z.cells (grownCap w (l.length+l2.length) cap et -(l.length+l2.length))).toList,Co.2 ⟨⟨hf,?_,by simpa using hge,hcm,?_⟩,?_⟩⟩
      · have hzl: ∀k,(Builtin.zeroCells z.cells k).toList.length=k*ti.size:=fun k=>by rw [Array.length_toList,size_zeroCells,hzc]
        rw [List.length_append,List.length_append,hlenf,hlen2,hzl,<-Nat.add_mul,<-Nat.add_mul]
        congr 1;omega
      · rw [List.length_append,Nat.add_mul,List.flatMap_append]
        exact List.take_left' (by rw [List.length_append,hlenf,hlen2])
      · refine Hl (fun h hp=>?_) this
        have e1:(l.flatMap f++l2.flatMap f++(Builtin.zeroCells z.cells (grownCap w (l.length+l2.length) cap et -(l.length+l2.length))).toList).toArray=(l.flatMap f).toArray++(l2.flatMap f).toArray++Builtin.zeroCells z.cells (grownCap w (l.length+l2.length) cap et -(l.length+l2.length)):=by
          apply Array.ext';simp
        rw [e1];exact hp

theorem On{A B:Ao}{R:List Ao}{w:World} :sat w ((fun h=>A h\/B h)::R)<->sat w (A::R)\/sat w (B::R):=by
 constructor
 ·rintro⟨h,a,h1,h2,d,e,b,r⟩
  rcases b with b|b
  ·exact .inl ⟨h,a,h1,h2,d,e,b,r⟩
  ·exact .inr ⟨h,a,h1,h2,d,e,b,r⟩
 ·rintro(⟨h,a,h1,h2,d,e,b,r⟩|⟨h,a,h1,h2,d,e,b,r⟩)
  ·exact⟨h,a,h1,h2,d,e,.inl b,r⟩
  ·exact⟨h,a,h1,h2,d,e,.inr b,r⟩
def Jr{α:Type}(a:Option Nat)(cap:Nat)(a':Option Nat)(cap' e:Nat)(T:TypeId)(f:α ->List Value)(l l':List α):Ao:=
 fun h=>(fun h=>(a'=a/\cap'=cap)/\Aa a cap e T f l' h) h\/F7 [Aa a' cap' e T f l',Aa a cap e T f l] h
section
variable {α : Type} {a a' : Option Nat} {cap cap' e : Nat} {T : TypeId} {f : α → List Value} {l l' : List α} {R : List Ao} {w : World}
theorem JA(h:sat w (Aa a cap e T f l::R)):sat w (Jr a cap a cap e T f l l::R):=On.2 (.inl (Co.2 ⟨⟨rfl,rfl⟩,h⟩))
theorem LD(h:sat w (Jr a cap a' cap' e T f l l'::R)):(a'=a/\cap'=cap/\sat w (Aa a cap e T f l'::R))\/sat w (Aa a' cap' e T f l'::Aa a cap e T f l::R):=by
 rcases On.1 h with h|h
 ·obtain⟨⟨h1,h2⟩,h3⟩:=Co.1 h
  exact .inl ⟨h1,h2,h3⟩
 ·exact .inr (Bb.1 h)
theorem ai(h1:a'=a)(h2:cap'=cap)(h:sat w (Aa a cap e T f l'::R)):sat w (Jr a cap a' cap' e T f l l'::R):=On.2 (.inl (Co.2 ⟨⟨h1,h2⟩,h⟩))
theorem Tx(h:sat w (Aa a' cap' e T f l'::Aa a cap e T f l::R)):sat w (Jr a cap a' cap' e T f l l'::R):=On.2 (.inr (Bb.2 h))
theorem Pe(hp:l <+:l'): ∀h,Aa a cap e T f l' h ->Aa a cap e T f l h:=by
 obtain⟨t,rfl⟩:=hp
 exact VI
theorem VJ(hp:l <+:l')(h:sat w (Jr a cap a' cap' e T f l l'::R)):sat w (Aa a cap e T f l::R):=by
 rcases LD h with ⟨_,_,h⟩|h
 ·exact Hl (Pe hp) h
 ·exact EB h
theorem Tw(h:sat w (Jr a cap a' cap' e T f l l'::R)):sat w (Aa a' cap' e T f l'::R):=by
 rcases LD h with ⟨rfl,rfl,h⟩|h
 ·exact h
 ·exact EB (AS (.swap _ _ _) h)
theorem Pk(hE1:Enc f e)(hp:l <+:l')(hn:a=none ->l= [])(hc:l.length<=cap):Sv [Jr a cap a' cap' e T f l l'] (sl a l.length cap) e f l (a.map fun g=>⟨g,0,none⟩) cap:=
 (BM (a:=a) (cap:=cap) (T:=T) hE1 hn hc).imp fun w h=>by
  have:=VJ hp h
  exact Sub.sat (B:= [Aa a cap e T f l]) ⟨_,.refl _⟩ this
theorem Pj(hE1:Enc f e)(hn:a'=none ->l'= [])(hc:l'.length<=cap'):Sv [Jr a cap a' cap' e T f l l'] (sl a' l'.length cap') e f l' (a'.map fun g=>⟨g,0,none⟩) cap':=
 (BM (a:=a') (cap:=cap') (T:=T) hE1 hn hc).imp fun w h=>by
  have:=Tw h
  exact Sub.sat (B:= [Aa a' cap' e T f l']) ⟨_,.refl _⟩ this
theorem I0(h:sat w (Jr a cap a' cap' e T f l l'::R)):(a'=none ->l'= [])/\l'.length<=cap':=B1 Has.here (Tw h)
end
section
variable {n : Nat} {L : List (Nat × Value)} {A : List Ao} {d : Option Tmp} {ty : TypeId} {pos' : String} {af : Array Edge} {g : Option (Nat × Bool)}
theorem MI{α:Type}{t t' et:TypeId}{e by_:Nat}{x y:Operand}{a a':Option Nat}{cap cap' len b:Nat}{f:α ->List Value}{l l':List α}{xs:List Value}{R:List Ao}(hE1:Enc f e)(u:α)(hx:ev L x=some (sl a' len cap'))(hy:ev L y=some (.slice (some ⟨b,0,none⟩) 1 1))(ht:P.underlying t=some (.slice et))(ht':P.underlying t'=some (.slice et))
  (hel:el P et=some (e,by_)) (hp:l <+:l') (hE:Ext A (Jr a cap a' cap' e et f l l') R:=by repeat (first|with_reducible exact Ext.here|with_reducible apply Ext.there)) (hA:Has R (cl b et xs):=by repeat (first|with_reducible exact Has.here|with_reducible refine Has.there ?_)) (hu:xs=f u:=by rfl)
  (hlen:len=l'.length:=by first|rfl|assumption|omega) (hb:l'.length<1000000000000:=by omega) (hby:Nat.ble by_ 128=true:=by rfl):
  Ac P n ⟨d,.call ⟨.builtin .append, #[x,y], #[t,t']⟩,ty,pos',af,g⟩ L A (fun r A'=> ∃a'' cap'',r=sl a'' (l'.length+1) cap''/\A'=Jr a cap a'' cap'' e et f l (l'++ [u])::R):=
 Ew fun ac w hfr hs=>by
  have hby':=Nat.le_of_ble_eq_true hby
  have hmul:(l'.length+ [u].length)*by_<=140737488355328:=Nat.le_trans (Nat.mul_le_mul (show l'.length+1<=1000000000000 by omega) hby') (by decide)
  have hml:l'.length+ [u].length<=maxLen:=by simp [maxLen];omega
  subst hlen
  unfold el at hel
  cases hi:P.info? et with
  |none=>rw [hi] at hel;simp at hel
  |some ti=>
   rw [hi] at hel
   simp only [Option.bind_some] at hel
   cases hz:ti.zero with
   |none=>rw [hz] at hel;simp at hel
   |some z=>
    rw [hz] at hel
    simp only [Option.bind_some] at hel
    split at hel
    ·rename_i hzc
     simp only [Option.some.injEq,Prod.mk.injEq] at hel
     have hsrc: ∀X:Ao,cJ P (X::R) e [u].length (.slice (some ⟨b,0,none⟩) 1 1) ([u].flatMap f):=fun X=>by
      have hxe:xs.length=e:=by rw [hu];exact hE1.len u
      exact Sz (m:=1) (Has.there hA) (by omega) (by simp only [List.drop_zero,Nat.one_mul];rw [List.take_of_length_le (by omega),hu];simp)
     have hsrc2: ∀X Y:Ao,cJ P (X::Y::R) e [u].length (.slice (some ⟨b,0,none⟩) 1 1) ([u].flatMap f):=fun X Y=>by
      have hxe:xs.length=e:=by rw [hu];exact hE1.len u
      exact Sz (m:=1) (Has.there (Has.there hA)) (by omega) (by simp only [List.drop_zero,Nat.one_mul];rw [List.take_of_length_le (by omega),hu];simp)
     have h1: ∀q∈ [u],∀v∈f q,v.oneCell'=true:=fun q _ v hv=>hE1.one q v hv
     rcases LD (AS hE hs) with ⟨rfl,rfl,h0⟩|h0
     ·obtain⟨a'',cap'',w',hr,hs',hk⟩:=QF (P:=P) (t:=t) (t':=t') (ty:=ty) (l2:= [u]) ht ht' (fun k hk=>by cases hk) hi hz hel.1 hel.2 (by rw [<-hel.1];exact hzc) hE1.len (hsrc _) Ext.here h1 hmul hml h0
      refine⟨sl a'' (l'++ [u]).length cap'',w',_,.inl (by simp only [execOp,resolve,invoke,Go.builtin,List.map_toArray,List.map_cons,List.map_nil,hfr.eval hx,hfr.eval hy,Sem.run_bind,Sem.run_pure,Result.andThen_ok,hr]),⟨a'',cap'',by rw [List.length_append];rfl,rfl⟩,?_,hk⟩
      rcases hs' with ⟨h2,h3,h4⟩|h4
      ·exact ai h2 h3 h4
      ·refine Tx (AS (.swap _ _ _) (Hl (Pe hp) (AS (.swap _ _ _) h4)))
     ·obtain⟨a'',cap'',w',hr,hs',hk,_⟩:=Mg (P:=P) (t:=t) (t':=t') (ty:=ty) (l2:= [u]) ht ht' (fun k hk=>by cases hk) hi hz hel.1 hel.2 (by rw [<-hel.1];exact hzc) hE1.len (hsrc2 _ _) Ext.here h1 hmul hml h0
      exact⟨sl a'' (l'++ [u]).length cap'',w',_,.inl (by simp only [execOp,resolve,invoke,Go.builtin,List.map_toArray,List.map_cons,List.map_nil,hfr.eval hx,hfr.eval hy,Sem.run_bind,Sem.run_pure,Result.andThen_ok,hr]),⟨a'',cap'',by rw [List.length_append];rfl,rfl⟩,Tx hs',hk⟩
    ·cases hel
end
end
end Go.SL
/-
 The digest of a message,in plain words:whole blocks mixed in,what is left,what is put behind. (Conditions:none;no program in sight.)
-/
set_option maxRecDepth 20000
namespace Go.ShM
open Go.SL
def MA(M:List B8)(i:Nat):List B8:=(M.drop (64*i)).take 64
def blkI(M:List B8)(k:Nat):List Bv:=it (fun i h=>mixM h (MA M i)) k iniM
def hM(M:List B8):List Bv:=blkI M (M.length / 64)
end Go.ShM
/-
 A hash in memory:a mark,bp words,what is left,how many bytes. (Conditions:none;generic over the program.)
-/
set_option maxRecDepth 20000
namespace Go.ShM
open Go.SL Go.RowKit
theorem bp{hs:List Bv}(h:hs.length=8):hs= [hs.getD 0 0#32,hs.getD 1 0#32,hs.getD 2 0#32,hs.getD 3 0#32,hs.getD 4 0#32,hs.getD 5 0#32,hs.getD 6 0#32,hs.getD 7 0#32]:=by
 match hs,h with
 | [a,b,c,d,e,f,g,i],_=>rfl
section
variable {P : Program} {n : Nat} {L : List (Nat × Value)} {A : List Ao} {d : Option Tmp} {ty : TypeId} {pos' : String} {af : Array Edge} {g : Option (Nat × Bool)} {t : TypeId} {x y : Operand}
end
end Go.ShM
/-
 Lists of bytes in a list:what stands there,and what they are one behind the other. (Conditions:none;no program in sight.)
-/
set_option maxRecDepth 20000
namespace Go.ShM
open Go.SL Go.RowKit
structure Pt where
 l:List B8
 ao:Option Addr
 cap:Nat
def Pt.v(p:Pt):Value:=.slice p.ao p.l.length p.cap
def fP(p:Pt):List Value:= [p.v]
theorem fW:Enc fP 1:=⟨fun _=>rfl,fun x v hv=>by simp [fP,Pt.v] at hv;subst hv;rfl⟩
def gi(A:List Ao)(p:Pt):Prop:=Sv A p.v 1 (eU .u8 (w:=8)) p.l p.ao p.cap
end Go.ShM
/-
 A fact as a thing owned;lists of lists of lists;a rule over what is owned said otherwise. (Conditions:none;generic over the program.)
-/
namespace Go.SL
open Go.RowKit Go.ShM
section
variable {P : Program} {m : Md} {ops : Array Oper} {Q : Exit → Act → World → Prop} {w0 : World} {n : Nat} {rest : List Oper} {L : List (Nat × Value)} {A R : List Ao} {c : Code} {p : Prop}
theorem Ac.imp{o:Oper}{B:List Ao}{Rr:Value ->List Ao ->Prop}(h:Ac P n o L B Rr)(k: ∀w,sat w A ->sat w B):Ac P n o L A Rr:=fun r0 a w K Q hf hs hk=>h r0 a w K Q hf (k w hs) hk
end
structure PPt where
 l:List Pt
 ao:Option Addr
 cap:Nat
def PPt.v(p:PPt):Value:=.slice p.ao p.l.length p.cap
end Go.SL
/-
 A range over a function,as rules of the logic:what yield is;a round out of its body's walk;the statement. (Conditions:none;generic over the program.)
-/
namespace Go.SL
open Go.RowKit
theorem SQ{P:Program}{ρ:Operand ->Value}{o:Oper}{w w':World}{l:Nat}{f:FuncId}{tmps:Array Value}{as bd:Code}(h:(execOp ρ o).run P w= .ok (.round l f tmps as bd) w'): ∀c,o.op≠ .defer c:=by
 intro c hc
 obtain⟨d,op,ty,DJ,af,g⟩:=o
 simp only at hc
 subst hc
 simp only [execOp,Sem.run_bind] at h
 cases hr:(resolve ρ c ty).run P w with
 |ok d w1=>rw [hr] at h;simp at h
 |halt x w1=>rw [hr] at h;simp at h
def Yd(P:Program)(l:Nat)(args:List Value)(pre:List Ao){ρ:Type}(val:ρ ->Value)(post:ρ ->List Ao):Prop:=
 ∀(F:List Ao) (w:World),sat w (pre++F) -> ∃(f:FuncId) (tmps:Array Value) (as bd:Code),(Instr.yield l args.toArray).run P w= .ok (.round l f tmps as bd) w/\
  ∀r:Option Nat,RoundIn (fz r) 0 P l f tmps as bd w (fun e w'=> ∃q,e= .returned (val q)/\sat w' (post q++F)/\Kept w w')
def yv(l:Nat):Value:=.func (.yield l) #[] #[]
theorem Ni{P:Program}{n:Nat}{L:List (Nat × Value)}{A:List Ao}{d:Option Tmp}{ty:TypeId}{pos':String}{af:Array Edge}{g:Option (Nat × Bool)}{x:Operand}{xs:Array Operand}{ts:Array TypeId}{l:Nat}{args:List Value}{pre F:List Ao}{ρ:Type}{val:ρ ->Value}{post:ρ ->List Ao}
  (hx:ev L x=some (yv l)) (ha:Xi L xs.toList=some args) (hy:Yd P l args pre val post) (hg:Gv A pre F:=by repeat (first|with_reducible exact Gv.nil|(with_reducible apply Gv.cons;· (repeat (first|with_reducible exact Ext.here|with_reducible apply Ext.there))))):
  Ac P n ⟨d,.call ⟨.value x,xs,ts⟩,ty,pos',af,g⟩ L A (fun v A'=> ∃q,v=val q/\A'=post q++F):=by
 intro r0 a w K Q hf hsat hk
 obtain⟨f,tmps,as,bd,hrun,hround⟩:=hy F w (AS hg hsat)
 have e:=hf.evals ha
 have e':xs.map a.eval=args.toArray:=by apply Array.ext';simp [e]
 have hr:(execOp a.eval ⟨d,.call ⟨.value x,xs,ts⟩,ty,pos',af,g⟩).run P w= .ok (.round l f tmps as bd) w:=by
  simp [execOp,resolve,hf.eval hx,yv,Deferred.ofValue,invoke,e',hrun]
 refine⟨fun _ _=>trivial,?_⟩
 rw [Oper.semAt_plain _ _ _ (SQ hr),hr]
 refine⟨KR,RoundIn.mono (hround r0) ?_⟩
 rintro e w' ⟨q,rfl,hs',hk'⟩
 exact hk _ _ _ ⟨q,rfl,rfl⟩ hs' hk'
def ZH(r:Loop):Loop:= { r with state:=.busy }
def rcR(r:Loop):Loop:= { r with state:=.ready,pending:=none }
def Yu(r:Loop)(c:Code):Loop:= { r with state:=.done,pending:=some c }
def lp(l:Nat)(r:Loop):Ao:=pt l (.loop r)
def M7{σ:Type}(φ:σ ->Prop)(f:σ ->List Ao):Ao:=fun h=> ∃s,φ s/\F7 (f s) h
theorem FD{σ:Type}{φ:σ ->Prop}{f:σ ->List Ao}{R:List Ao}{w:World} :sat w (M7 φ f::R)<-> ∃s,φ s/\sat w (f s++R):=by
 unfold M7
 rw [E3]
 constructor
 ·rintro⟨s,h⟩
  obtain⟨h1,h2⟩:=Co.1 h
  exact⟨s,h1,Bb.1 h2⟩
 ·rintro⟨s,h1,h2⟩
  exact⟨s,Co.2 ⟨h1,Bb.2 h2⟩⟩
theorem N8{σ:Type}{φ:σ ->Prop}{f:σ ->List Ao}{A R:List Ao}(s:σ)(hφ:φ s)(h:Sub A (f s++R)): ∀w,sat w A ->sat w (M7 φ f::R):=fun _ hs=>FD.2 ⟨s,hφ,h.sat hs⟩
section
variable {P : Program} {m : Md} {ops : Array Oper} {Q : Exit → Act → World → Prop} {w0 : World} {n : Nat} {rest : List Oper} {L : List (Nat × Value)} {A R : List Ao} {c : Code} {σ : Type} {φ : σ → Prop} {f : σ → List Ao}
theorem YU{l:Nat}{args:List Value}{pre:List Ao}{ρ:Type}{val:ρ ->Value}{post:ρ ->List Ao}(k: ∀s,φ s ->Yd P l args (f s++pre) val post):Yd P l args (M7 φ f::pre) val post:=fun F w h=>
 let ⟨s,h1,h2⟩:=FD.1 h;k s h1 F w (by rw [List.append_assoc];exact h2)
end
structure REnd (P:Program) (l:Nat) (rc:Loop) (w0:World) (n:Nat) (F:List Ao) {ρ:Type} (val:ρ ->Value) (post:ρ ->List Ao) (Q:Exit ->Act ->World ->Prop):Prop where
 nrm: ∀ {L:List (Nat × Value)} {A B:List Ao} (q:ρ),val q= .bool true ->Ext A (lp l (ZH rc)) B ->(∀w,sat w (lp l rc::B) ->sat w (post q++F)) ->Ps ⟨some l,[]⟩ (Q .normal) w0 n L A
 ret: ∀ {L:List (Nat × Value)} {A B:List Ao} (q:ρ),val q= .bool false ->Ext A (lp l (ZH rc)) B ->(∀w,sat w (lp l (Yu rc .ret)::B) ->sat w (post q++F)) ->Ps ⟨some l,[]⟩ (Q .ret) w0 n L A
 exi: ∀(k:Nat) {L:List (Nat × Value)} {A B:List Ao} (q:ρ),val q= .bool false ->Ext A (lp l (ZH rc)) B ->(∀w,sat w (lp l (Yu rc (.exit k))::B) ->sat w (post q++F)) ->Ps ⟨some l,[]⟩ (Q (.exit k)) w0 n L A
def RBeg(P:Program)(l:Nat)(rc:Loop)(bd:Code)(w0:World)(n:Nat)(Q:Exit ->Act ->World ->Prop)(K:Act ->World ->Prop):Prop:=
 ∀ {L:List (Nat × Value)} {A B:List Ao},Ext A (lp l rc) B ->WC P ⟨some l,[]⟩ Q w0 n bd L (lp l (ZH rc)::B) ->Ps ⟨some l,[]⟩ K w0 n L A
theorem HV{l:Nat}{r r':Loop}{R:List Ao}{w:World}(h:sat w (lp l r::R)):sat (w.putObj l (.loop r')) (lp l r'::R)/\Kept w (w.putObj l (.loop r')):=by
 have hb:=Cn h
 have hlt:=(Array.getElem?_eq_some_iff.1 hb).1
 refine⟨Fq (by simp [World.putObj,hlt]) (fun c hc x hx=>by simp [World.putObj,Ne.symm hc];exact hx) h,⟨rfl,rfl,rfl,by simp [World.putObj],by simp [World.putObj]⟩⟩
theorem Tg{n:Nat} : ∀(ps:List Tmp) (vs:List Value) (tm:Array Value) (L:List (Nat × Value)),Fr n L { tmps:=tm,defers:= [] } ->(ps.all fun p=>Nat.blt p n)=true ->ps.length=vs.length ->
  Fr n ((ps.zip vs).reverse++L) { tmps:=(ps.zip vs).foldl (fun tmps (t,a)=>tmps.setIfInBounds t a) tm,defers:= [] }
 | [],[],tm,L,h,_,_=>h
 |p::ps,v::vs,tm,L,h,hp,hl=>by
  rw [List.all_cons,Bool.and_eq_true] at hp
  have h1:=h.put hp.1 v
  have h2:Fr n ((p,v)::L) { tmps:=tm.setIfInBounds p v,defers:= [] } :=h1
  have:=Tg ps vs _ _ h2 hp.2 (by simpa using hl)
  simpa using this
 | [],_::_,_,_,_,_,hl=>by simp at hl
 |_::_,[],_,_,_,_,hl=>by simp at hl
theorem YT{P:Program}{l n:Nat}{rc:Loop}{L0:List (Nat × Value)}{args:List Value}{pre:List Ao}{ρ:Type}{val:ρ ->Value}{post:ρ ->List Ao}{ps:Array Tmp}{as bd:Code}(hst:rc.state= .ready)(hpd:rc.pending=none)(hpa:rc.params=ps)(has:rc.assign=as)(hbd:rc.body=bd)(hfr:Fr n L0 { tmps:=rc.tmps,defers:= [] })(hps:(ps.toList.all fun p=>Nat.blt p n)=true)(hpl:ps.toList.length=args.length)
  (h: ∀(F:List Ao) (w0:World) (Q:Exit ->Act ->World ->Prop) (K:Act ->World ->Prop),I4 Q ->REnd P l rc w0 n F val post Q ->RBeg P l rc bd w0 n Q K ->WC P ⟨some l,[]⟩ (Exit.then K (fun _ _ _=>False)) w0 n as ((ps.toList.zip args).reverse++L0) (lp l rc::pre++F)):
  Yd P l args (lp l rc::pre) val post:=by
 subst hpa has hbd
 intro F w hs
 have hrc:rcR rc=rc:=by cases rc;simp only at hst hpd;subst hst hpd;rfl
 have hb:=Cn hs
 have hsz:args.toArray.size=rc.params.size:=by rw [List.size_toArray,<-hpl,Array.length_toList]
 refine⟨rc.fn,(rc.params.zip args.toArray).foldl (fun tmps (t,a)=>tmps.setIfInBounds t a) rc.tmps,rc.assign,rc.body,run_yield hb hsz,fun r=>?_⟩
 have hfold:(rc.params.zip args.toArray).foldl (fun tmps (t,a)=>tmps.setIfInBounds t a) rc.tmps=(rc.params.toList.zip args).foldl (fun tmps (t,a)=>tmps.setIfInBounds t a) rc.tmps:=by
  rw [<-Array.foldl_toList];simp
 rw [hfold]
 let R:Ending ->World ->Prop:=fun e w'=> ∃q,e= .returned (val q)/\sat w' (post q++F)/\Kept w w'
 show RoundIn (fz r) 0 P l rc.fn _ rc.assign rc.body w R
 refine roundIn_of_wpIn (Tf _ _) ?_
 have hq:=h F w (roundPost P l R) (fun a₁ w₁=> ∃w₂,(Instr.beginRound l).run P w₁= .ok () w₂/\rc.body.wpIn ((fz r).inRound l) 0 P (roundPost P l R) a₁ w₂) (fun d v c a w hq=>hq) ?_ ?_
 ·exact hq _ w rfl (Tg _ _ _ _ hfr hps hpl) hs (.refl _)
 ·refine⟨fun q hv hE hS a w' _ _ hs' hk=>?_,fun q hv hE hS a w' _ _ hs' hk=>?_,fun k L A B q hv hE hS a w' _ _ hs' hk=>?_⟩
  ·have h1:=AS hE hs'
   obtain⟨h2,h3⟩:=HV (r':=rcR rc) h1
   exact⟨.bool true,w'.putObj l (.loop (rcR rc)),run_endRound (r:=ZH rc) none (Cn h1),q,by rw [hv],hS _ (by rw [hrc] at h2 ⊢;exact h2),hk.trans h3⟩
  ·have h1:=AS hE hs'
   obtain⟨h2,h3⟩:=HV (r':=Yu rc .ret) h1
   exact⟨.bool false,w'.putObj l (.loop (Yu rc .ret)),run_endRound (r:=ZH rc) (some .ret) (Cn h1),q,by rw [hv],hS _ h2,hk.trans h3⟩
  ·have h1:=AS hE hs'
   obtain⟨h2,h3⟩:=HV (r':=Yu rc (.exit k)) h1
   exact⟨.bool false,w'.putObj l (.loop (Yu rc (.exit k))),run_endRound (r:=ZH rc) (some (.exit k)) (Cn h1),q,by rw [hv],hS _ h2,hk.trans h3⟩
 ·intro L A B hE hW a w' hd hf hs' hk
  have h1:=AS hE hs'
  obtain⟨h2,h3⟩:=HV (r':=ZH rc) h1
  exact⟨w'.putObj l (.loop (ZH rc)),run_beginRound (Cn h1) hst,hW a _ hd hf h2 (hk.trans h3)⟩
def Rc(P:Program)(Q:Exit ->Act ->World ->Prop)(w0:World)(n:Nat)(m:Md)(l:Nat)(L:List (Nat × Value))(A:List Ao):Prop:=
 ∀(a:Act) (w:World),a.defers=m.ds ->Fr n L a ->sat w A ->Kept w0 w -> ∃jump w4,(Instr.endLoop l).run P w= .ok jump w4/\(match jump with|none=>Q .normal a w4|some c=>c.wpIn (fz m.r) 0 P Q a w4)
section
variable {P : Program} {m : Md} {l : Nat} {Q : Exit → Act → World → Prop} {w0 : World} {n : Nat} {L : List (Nat × Value)} {A B R : List Ao} {σ : Type} {φ : σ → Prop} {f : σ → List Ao}
theorem Kb(k: ∀s,φ s ->Rc P Q w0 n m l L (f s++R))(hE:Ext A (M7 φ f) R:=by repeat (first|with_reducible exact Ext.here|with_reducible apply Ext.there)):Rc P Q w0 n m l L A:=fun a w hd hf hs hk=>
 let ⟨s,h1,h2⟩:=FD.1 (AS hE hs);k s h1 a w hd hf h2 hk
theorem LH{rc:Loop}(hst:rc.state= .ready)(hpd:rc.pending=none)(k:Ps m (Q .normal) w0 n L B)(hE:Ext A (lp l rc) B:=by repeat (first|with_reducible exact Ext.here|with_reducible apply Ext.there)):Rc P Q w0 n m l L A:=fun a w hd hf hs hk=>by
 have h1:=AS hE hs
 obtain⟨h2,h3⟩:=HV (r':= { rc with state:=.exhausted }) h1
 refine⟨none,_,by rw [<-hpd];exact run_endLoop (Cn h1) (by rw [hst];exact fun h=>by cases h),?_⟩
 exact k _ _ hd hf (EB h2) (hk.trans h3)
theorem Vd{rc:Loop}{c:Code}(k:WC P m Q w0 n c L B)(hE:Ext A (lp l (Yu rc c)) B:=by repeat (first|with_reducible exact Ext.here|with_reducible apply Ext.there)):Rc P Q w0 n m l L A:=fun a w hd hf hs hk=>by
 have h1:=AS hE hs
 obtain⟨h2,h3⟩:=HV (r':= { Yu rc c with state:=.exhausted }) h1
 refine⟨some c,_,run_endLoop (Cn h1) (fun h=>by cases h),?_⟩
 exact k _ _ hd hf (EB h2) (hk.trans h3)
end
theorem YZ{P:Program}{Q:Exit ->Act ->World ->Prop}{w0:World}{n:Nat}{L:List (Nat × Value)}{A:List Ao}{ds:List Deferred}{g:Operand}{ps:Array Tmp}{as bd:Code}{f:FuncId}{caps:List Value}(hg:ev L g=some (.func (.func f) #[] caps.toArray))(hc:DF P f=true)
  (h: ∀(l D:Nat) (rc:Loop),rc.state= .ready ->rc.pending=none ->rc.params=ps ->rc.assign=as ->rc.body=bd ->Fr n L { tmps:=rc.tmps,defers:= [] } -> ∃(ρ:Type) (pre F:List Ao) (val:ρ ->Value) (post:ρ ->List Ao),Ct P f (yv l::caps) pre val post/\
   (∀w,sat w (lp l rc::Vj D::A) ->sat w (pre++F))/\ ∀r:ρ,Rc P Q w0 n ⟨none,aI D::ds⟩ l L (post r++F)):
  WC P ⟨none,ds⟩ Q w0 n (.rangeFunc g ps as bd) L A:=by
 intro a w hd hf hs hk
 refine wpIn_rangeFunc fun fn _=>?_
 obtain⟨tm,dfs⟩:=a
 have hd':dfs=ds:=hd
 subst hd'
 obtain⟨ρ,pre,F,val,post,hct,hgv,hpost⟩:=h (w.heap.size+1) w.heap.size { state:=.ready,pending:=none,fn:=fn,tmps:=tm,params:=ps,assign:=as,body:=bd,defers:=w.heap.size } rfl rfl rfl rfl rfl hf
 have s1:=GR (w:=w) (w':=w.alloc (.deferred (some []))) (o:=.deferred (some [])) rfl hs
 have s2:=GR (w:=w.alloc (.deferred (some []))) (w':=(w.alloc (.deferred (some []))).alloc (.loop { state:=.ready,pending:=none,fn:=fn,tmps:=tm,params:=ps,assign:=as,body:=bd,defers:=w.heap.size })) (o:=.loop { state:=.ready,pending:=none,fn:=fn,tmps:=tm,params:=ps,assign:=as,body:=bd,defers:=w.heap.size }) rfl s1
 have hsz:(w.alloc (.deferred (some []))).heap.size=w.heap.size+1:=by simp
 rw [hsz] at s2
 have s3:=hgv _ s2
 have hev:(Act.mk tm dfs).eval g= .func (.func f) #[] caps.toArray:=Fr.eval (a:=⟨tm,dfs⟩) hf hg
 refine⟨w.heap.size+1,[aI w.heap.size],(w.alloc (.deferred (some []))).alloc (.loop { state:=.ready,pending:=none,fn:=fn,tmps:=tm,params:=ps,assign:=as,body:=bd,defers:=w.heap.size }),{ target:=.fn (.func f) caps.toArray,args:= #[yv (w.heap.size+1)] },(w.alloc (.deferred (some []))).alloc (.loop { state:=.ready,pending:=none,fn:=fn,tmps:=tm,params:=ps,assign:=as,body:=bd,defers:=w.heap.size }),f,(yv (w.heap.size+1)::caps).toArray,(w.alloc (.deferred (some []))).alloc (.loop { state:=.ready,pending:=none,fn:=fn,tmps:=tm,params:=ps,assign:=as,body:=bd,defers:=w.heap.size }),run_enterLoop_outer fn tm ps as bd,?_,fun _ _=>Tf _ _,?_,KR,R7 ((hct.out F _ s3).mono ?_)⟩
 ·simp [rangeCall,resolve,hev,Deferred.ofValue,yv]
  rfl
 ·simp [invoke,FI hc]
 ·rintro e w' ⟨r,rfl,hs',hk'⟩
  have hk0:Kept w ((w.alloc (.deferred (some []))).alloc (.loop { state:=.ready,pending:=none,fn:=fn,tmps:=tm,params:=ps,assign:=as,body:=bd,defers:=w.heap.size })):=⟨rfl,rfl,rfl,by simp;omega,Nat.le_refl _⟩
  exact hpost r ⟨tm,aI w.heap.size::dfs⟩ w' rfl hf hs' (hk.trans (hk0.trans hk'))
theorem SZ{σ:Type}{φ:σ ->Prop}{f:σ ->List Ao}{A Y R1 R:List Ao}(s:σ)(hφ:φ s)(h1:Gv A Y R1)(h2:Gv R1 (f s) R): ∀w,sat w A ->sat w ((Y++ [M7 φ f])++R):=fun w h=>by
 rw [List.append_assoc]
 have a1:=AS (h1.trans (List.Perm.append_left Y h2)) h
 refine AS (List.perm_middle).symm (FD.2 ⟨s,hφ,?_⟩)
 refine AS ?_ a1
 rw [<-List.append_assoc,<-List.append_assoc]
 exact List.Perm.append_right R List.perm_append_comm
theorem Xn{P:Program}{D:Nat}{ds:List Deferred}{A B:List Ao}{K:List Ao ->Prop}(hE:Ext A (Vj D) B)(h:Rm P ds B K):Rm P (aI D::ds) A K:=.inl ⟨D,B,rfl,hE,h⟩
section
variable {P : Program} {n : Nat} {w0 : World} {L : List (Nat × Value)} {A B C : List Ao} {fn : Func} {F : List Ao} {ρ : Type} {val : ρ → Value} {post : ρ → List Ao} {Q : Act → World → Prop} {D D' : Nat}
theorem End.goD(h:End P fn n w0 F val post Q)(r:ρ)(hr:Rs P fn n L B (val r))(hE:Ext A (Vj D) B:=by repeat (first|with_reducible exact Ext.here|with_reducible apply Ext.there))(hS:Sub B (post r++F):=by simp only [List.cons_append,List.nil_append];repeat (first|with_reducible exact Sub.refl|with_reducible exact Sub.nil|with_reducible refine Sub.cons (by repeat (first|with_reducible exact Ext.here|with_reducible apply Ext.there)) ?_|with_reducible refine Sub.tail ?_)):Ps ⟨none,[aI D]⟩ Q w0 n L A:=
 h _ _ _ rfl (Xn hE ⟨r,hr,hS⟩)
end
end Go.SL
/-
 Loops whose rounds leave marks on the deferred calls (a range over a function within a plain loop). (Conditions:none;generic over the program.)
-/
namespace Go.SL
open Go.RowKit
theorem Ya{P:Program}{Q:Exit ->Act ->World ->Prop}{w0:World}{n:Nat}{L:List (Nat × Value)}{A:List Ao}{r:Option Nat}{ds0:List Deferred}{c:Code}{σ:Type}(Li:σ ->List (Nat × Value))(Ai:σ ->List Ao)(φ:σ ->Prop)(μ:σ ->Nat)(ds:σ ->List Deferred)(s0:σ)(hds:ds0=ds s0)(h0:φ s0)(hl:Wk L (Li s0))(ha:Sub A (Ai s0))
  (round: ∀s,φ s -> ∀K:Act ->World ->Prop,(∀s',φ s' ->μ s'<μ s ->Ps ⟨r,ds s'⟩ K w0 n (Li s') (Ai s')) ->WC P ⟨r,ds s⟩ (Exit.then K Q) w0 n c (Li s) (Ai s)):WC P ⟨r,ds0⟩ Q w0 n (.loop c) L A:=by
 subst hds
 intro a w hd0 hf hs hk
 suffices H: ∀k s,μ s<k ->φ s -> ∀a w,a.defers=ds s ->Fr n (Li s) a ->sat w (Ai s) ->Kept w0 w ->Code.roundsIn (fz r) 0 P c Q k a w from
  wpIn_loop_rounds (μ s0+1) (H _ s0 (Nat.lt_succ_self _) h0 a w hd0 (hf.wk hl) (ha.sat hs) hk)
 intro k
 induction k with
 |zero=>intro s hm;omega
 |succ k ih=>
  intro s hm hφ a w hd0 hf hs hk
  rw [roundsIn_succ]
  exact round s hφ _ (fun s' hφ' hlt a' w' hd' hf' hs' hk'=>ih s' (by omega) hφ' a' w' hd' hf' hs' hk') a w hd0 hf hs hk
theorem RG{P:Program}{K:List Ao ->Prop} : ∀(Ds:List Nat) (A B:List Ao),A.Perm (Ds.map Vj++B) ->(∀A,A.Perm B ->K A) ->Rm P (Ds.map aI) A K
 | [],A,B,h,hK=>hK A h
 |D::Ds,A,B,h,hK=>.inl ⟨D,Ds.map Vj++B,rfl,h,RG Ds _ B (.refl _) hK⟩
theorem VZ{P:Program}{Q:Exit ->Act ->World ->Prop}{w0:World}{n:Nat}{L D:List (Nat × Value)}{A R B0:List Ao}{r:Option Nat}{ds0:List Deferred}{c:Code}{σ:Type}(M:σ ->List (Nat × Value))(B:σ ->List Ao)(φ:σ ->Prop)(μ:σ ->Nat)(ds:σ ->List Deferred)(s0:σ)(ks:List Nat)(hD:Kep ks L D)(hR:Gv A B0 R)(h0:φ s0)(hds:ds0=ds s0)(hl:Wk L (M s0))(hb:Sub (B0++R) (B s0++R))
  (round: ∀s,φ s -> ∀K:Act ->World ->Prop,(∀s',φ s' ->μ s'<μ s ->Ps ⟨r,ds s'⟩ K w0 n (M s'++D) (B s'++R)) ->WC P ⟨r,ds s⟩ (Exit.then K Q) w0 n c (M s++D) (B s++R)):WC P ⟨r,ds0⟩ Q w0 n (.loop c) L A:=
 Ya (fun s=>M s++D) (fun s=>B s++R) φ μ ds s0 hds h0 (hl.app hD.wk) (by obtain⟨X,p⟩:=hb;exact⟨X,List.Perm.trans hR p⟩) round
section
variable {P : Program} {n : Nat} {w0 : World} {L : List (Nat × Value)} {A B : List Ao} {fn : Func} {F : List Ao} {ρ : Type} {val : ρ → Value} {post : ρ → List Ao} {Q : Act → World → Prop} {Ds : List Nat}
def PW(Ds:List Nat):Ao:=F7 (Ds.map Vj)
theorem Xv{w:World}(h:sat w A):sat w (PW []::A):=Bb.2 h
theorem V7{w:World}{D:Nat} :sat w (PW (D::Ds)::A)<->sat w (Vj D::PW Ds::A):=by
 unfold PW
 exact DZ (F:=Vj)
theorem Yb{m:Md}{Q:Exit ->Act ->World ->Prop}{c:Code}(k:WC P m Q w0 n c L (PW []::A)):WC P m Q w0 n c L A:=Cz (fun _ h=>Xv h) k
theorem Pq{m:Md}{K:Act ->World ->Prop}{R R2:List Ao}{D:Nat}(k:Ps m K w0 n L (PW (D::Ds)::R2))(hE:Ext A (Vj D) R:=by repeat (first|with_reducible exact Ext.here|with_reducible apply Ext.there))(hE2:Ext R (PW Ds) R2:=by repeat (first|with_reducible exact Ext.here|with_reducible apply Ext.there)):Ps m K w0 n L A:=
 I3 (fun _ h=>V7.2 (AS (List.Perm.trans hE (List.Perm.cons _ hE2)) h)) k
theorem End.goSE(h:End P fn n w0 F val post Q)(r:ρ){v:Value}(hr:Rs P fn n L B v)(he:v=val r)(hE:Ext A (PW Ds) B:=by repeat (first|with_reducible exact Ext.here|with_reducible apply Ext.there))(hS:Sub B (post r++F):=by simp only [List.cons_append,List.nil_append];repeat (first|with_reducible exact Sub.refl|with_reducible exact Sub.nil|with_reducible refine Sub.cons (by repeat (first|with_reducible exact Ext.here|with_reducible apply Ext.there)) ?_|with_reducible refine Sub.tail ?_)):Ps ⟨none,Ds.map aI⟩ Q w0 n L A:=
 I3 (A':=Ds.map Vj++B) (fun _ hs=>(Bb (A:=Ds.map Vj)).1 (AS hE hs)) (h _ _ _ rfl (RG Ds _ B (.refl _) fun _ hA=>⟨r,he ▸ fun a w hf hs=>hr a w hf (AS hA hs),by obtain⟨R,p⟩:=hS;exact⟨R,List.Perm.trans hA p⟩⟩))
end
end Go.SL
