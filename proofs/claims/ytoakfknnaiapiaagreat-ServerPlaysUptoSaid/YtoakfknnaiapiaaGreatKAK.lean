/-
  Contracts of functions that the claim reaches, or the logic and the plain laws that they rest on, or the row over them. (Conditions: none beyond the statement.)
-/
import Derived.Test.YtoakfknnaiapiaaGreatKAJ
import Derived.Test.YtoakfknnaiapiaaGreatKAE
set_option linter.all false
/-
 What the document does with a server's state,in plain words. (Conditions:none;generic over the program.)
-/
set_option maxRecDepth 20000
namespace Go.SvM
open Go.SL Go.ShM Go.RowKit
def GA:Option Nat ->Int
 |none=> -1
 |some i=>((i:Nat):Int)
def Ed(k:Ky)(l:List Kp):Option Nat:=l.findIdx? fun e=>decide (e.key=k)
def Gm(w:Bv)(ls:List Ls):Option Nat:=ls.findIdx? fun x=>decide (x.1=w)
theorem XU{α:Type}{p:α ->Bool}{l:List α}{i:Nat}{x:α}(hx:l[i]? =some x)(hp:p x=true)(hn: ∀y∈l.take i,p y=false):l.findIdx? p=some i:=by
 obtain⟨hi,e⟩:=List.getElem?_eq_some_iff.1 hx
 rw [List.findIdx?_eq_some_iff_getElem]
 refine⟨hi,by rw [e];exact hp,fun j hj=>?_⟩
 have:=hn l[j] (List.mem_take_iff_getElem.2 ⟨j,by omega,rfl⟩)
 rw [this];decide
theorem Qt{α:Type}{p:α ->Bool}{l:List α}(hn: ∀y∈l,p y=false):l.findIdx? p=none:=List.findIdx?_eq_none_iff.2 hn
theorem Qs{α:Type}{p:α ->Bool}{l:List α}{i:Nat}(h:l.findIdx? p=some i): ∃x,l[i]? =some x/\p x=true/\l.find? p=some x:=by
 obtain⟨hi,h1,h2⟩:=List.findIdx?_eq_some_iff_getElem.1 h
 refine⟨l[i],List.getElem?_eq_getElem hi,h1,?_⟩
 rw [List.find?_eq_some_iff_getElem]
 exact⟨h1,i,hi,rfl,fun j hj=>by have:=h2 j hj;simpa using this⟩
theorem XT{α:Type}{p:α ->Bool}{l:List α}(h:l.findIdx? p=none):l.find? p=none:=by
 rw [List.find?_eq_none]
 intro x hx
 have:=List.findIdx?_eq_none_iff.1 h x hx
 rw [this];decide
theorem Oe{α:Type}{p:α ->Bool}{l:List α}{i:Nat}{x:α}(h:l[i]? =some x)(h0: ∀y∈l.take i,p y=false)(h1:p x=false): ∀y∈l.take (i+1),p y=false:=fun y hy=>by
 rw [List.take_add_one,h,List.mem_append] at hy
 rcases hy with hy|hy
 ·exact h0 y hy
 ·rw [Option.toList_some,List.mem_singleton] at hy
  rw [hy];exact h1
theorem XY{w:Bv}{ls:List Ls} :(Gm w ls).isSome=Bi w ls:=by
 unfold Gm Bi
 rw [List.findIdx?_isSome]
theorem Do{w:Bv}{ls:List Ls} :Bi w ls=false<->Gm w ls=none:=by
 rw [<-XY]
 cases Gm w ls <;>simp
theorem KN{o:Option Nat} :GA o<0<->o=none:=by
 cases o with
 |none=>simp [GA]
 |some i=>simp [GA]
def Px(w:Bv)(P:List Ls):List Ls:=P.filter fun y=>decide (y.1.toNat<w.toNat)
def HH(w:Bv)(P:List Ls):List Ls:=P.filter fun y=>decide (w.toNat<y.1.toNat)
def GK(w:Bv)(u:Int)(P:List Ls):Int:=P.foldl (fun u y=>if y.1=w/\u<y.2 then y.2 else u) u
def E7(w:Bv)(u:Int)(P:List Ls):List Ls:=Px w P++(if HH w P= [] then [] else (w,GK w u P)::HH w P)
theorem cm(w:Bv)(u:Int)(l:List Ls):E7 w u (l.take 0)= []:=by rw [List.take_zero];simp [E7,Px,HH]
theorem IJ(w:Bv)(u:Int)(P:List Ls)(y:Ls):GK w u (P++ [y])=if y.1=w/\GK w u P<y.2 then y.2 else GK w u P:=by
 unfold GK;rw [List.foldl_append];rfl
theorem KE(w:Bv)(P:List Ls)(y:Ls):Px w (P++ [y])=if y.1.toNat<w.toNat then Px w P++ [y] else Px w P:=by
 unfold Px
 rw [List.filter_append]
 by_cases h:y.1.toNat<w.toNat
 ·rw [if_pos h,List.filter_cons_of_pos (by simpa using h)];rfl
 ·rw [if_neg h,List.filter_cons_of_neg (by simpa using h),List.filter_nil,List.append_nil]
theorem Gn(w:Bv)(P:List Ls)(y:Ls):HH w (P++ [y])=if w.toNat<y.1.toNat then HH w P++ [y] else HH w P:=by
 unfold HH
 rw [List.filter_append]
 by_cases h:w.toNat<y.1.toNat
 ·rw [if_pos h,List.filter_cons_of_pos (by simpa using h)];rfl
 ·rw [if_neg h,List.filter_cons_of_neg (by simpa using h),List.filter_nil,List.append_nil]
theorem PH{w:Bv}{P:List Ls}{y:Ls}(h: ∀z∈P,Lj z y)(k:y.1.toNat<=w.toNat):HH w P= []:=by
 unfold HH
 rw [List.filter_eq_nil_iff]
 intro z hz
 have:=h z hz
 unfold Lj at this
 simp;omega
theorem WE{l:List Ls}(h:SrtW l){i:Nat}{y:Ls}(hy:l[i]? =some y): ∀z∈l.take i,Lj z y:=fun z hz=>by
 obtain⟨hi,e⟩:=List.getElem?_eq_some_iff.1 hy
 obtain⟨j,hj,e2⟩:=List.mem_take_iff_getElem.1 hz
 have:=List.pairwise_iff_getElem.1 h j i (by omega) hi (by omega)
 rw [e,e2] at this;exact this
section
variable {w : Bv} {u : Int} {P : List Ls} {y : Ls}
theorem Wj(h: ∀z∈P,Lj z y)(k:y.1=w):E7 w u (P++ [y])=E7 w u P:=by
 have h0:=PH h (show y.1.toNat<=w.toNat by rw [k];exact Nat.le_refl _)
 have h1:HH w (P++ [y])= []:=by rw [Gn,if_neg (by rw [k];exact Nat.lt_irrefl _),h0]
 have h2:Px w (P++ [y])=Px w P:=by rw [KE,if_neg (by rw [k];exact Nat.lt_irrefl _)]
 unfold E7
 rw [h1,h2,h0,if_pos rfl,if_pos rfl]
theorem Wi(k:y.1≠w)(k2:HH w P≠ [])(h: ∀z∈P,Lj z y):E7 w u (P++ [y])=E7 w u P++ [y]:=by
 have h1:w.toNat<y.1.toNat:=by
  rcases Nat.lt_or_ge w.toNat y.1.toNat with q|q
  ·exact q
  ·exact absurd (PH h q) k2
 unfold E7
 rw [KE,Gn,IJ,if_neg (by omega),if_pos h1,if_neg (by simp),if_neg k2,if_neg (fun q=>k q.1),List.append_assoc]
 rfl
theorem Wh(k:y.1≠w)(k2: ¬w.toNat<y.1.toNat)(h: ∀z∈P,Lj z y):E7 w u (P++ [y])=E7 w u P++ [y]:=by
 have h0:=PH h (show y.1.toNat<=w.toNat by omega)
 have hne:y.1.toNat≠w.toNat:=fun e=>k (BitVec.eq_of_toNat_eq e)
 unfold E7
 rw [KE,Gn,if_pos (by omega),if_neg k2,h0,if_pos rfl,if_pos rfl,List.append_nil,List.append_nil]
theorem TJ(k2:w.toNat<y.1.toNat)(k3:HH w P= []):E7 w u (P++ [y])=(E7 w u P++ [(w,GK w u P)])++ [y]:=by
 unfold E7
 rw [KE,Gn,IJ,if_neg (by omega),if_pos k2,k3,if_pos rfl,if_neg (by simp),if_neg (fun q=>by rw [q.1] at k2;omega),List.append_nil,List.append_assoc]
 rfl
theorem Td(k2:w.toNat<y.1.toNat):HH w (P++ [y])≠ []:=by rw [Gn,if_pos k2];simp
theorem PE(k2: ¬w.toNat<y.1.toNat):HH w (P++ [y])=HH w P:=by rw [Gn,if_neg k2]
theorem Zr(k2:HH w P≠ []):HH w (P++ [y])≠ []:=by
 rw [Gn];split
 ·simp
 ·exact k2
theorem Ob(k:y.1≠w):GK w u (P++ [y])=GK w u P:=by rw [IJ,if_neg (fun q=>k q.1)]
theorem eo(k:y.1=w)(k2:GK w u P<y.2):GK w u (P++ [y])=y.2:=by rw [IJ,if_pos ⟨k,k2⟩]
theorem cT(k2: ¬GK w u P<y.2):GK w u (P++ [y])=GK w u P:=by rw [IJ,if_neg (fun q=>k2 q.2)]
end
theorem MR(w:Bv)(u:Int)(x:Ls)(r:List Ls):GK w u (x::r)=GK w (if x.1=w/\u<x.2 then x.2 else u) r:=rfl
theorem Ry{w:Bv}{u:Int} : ∀ {r:List Ls},(∀z∈r,z.1≠w) ->GK w u r=u
 | [],_=>rfl
 |x::r,h=>by
  rw [MR,if_neg (fun q=>h x List.mem_cons_self q.1)]
  exact Ry fun z hz=>h z (List.mem_cons_of_mem _ hz)
theorem Lu{w:Bv}{u:Int} : ∀ {l:List Ls},SrtW l ->Px w l++(w,GK w u l)::HH w l=Bc w u l
 | [],_=>rfl
 |x::r,h=>by
  have h1:=List.pairwise_cons.1 h
  by_cases e:x.1=w
  ·have hr: ∀z∈r,w.toNat<z.1.toNat:=fun z hz=>by have:=h1.1 z hz;unfold Lj at this;rw [e] at this;exact this
   have a:Px w (x::r)= []:=by
    unfold Px
    rw [List.filter_eq_nil_iff]
    intro z hz
    rcases List.mem_cons.1 hz with rfl|hz
    ·rw [e];simp
    ·have:=hr z hz;simp;omega
   have b:HH w (x::r)=r:=by
    unfold HH
    rw [List.filter_cons_of_neg (by rw [e];simp)]
    exact List.filter_eq_self.2 fun z hz=>by simpa using hr z hz
   rw [a,b,MR,Ry (fun z hz q=>by have:=hr z hz;rw [q] at this;omega)]
   unfold Bc
   rw [if_pos e]
   have:(if x.1=w/\u<x.2 then x.2 else u)=max x.2 u:=by
    by_cases q:u<x.2
    ·rw [if_pos ⟨e,q⟩];omega
    ·rw [if_neg (fun z=>q z.2)];omega
   rw [this];rfl
  ·by_cases g:w.toNat<x.1.toNat
   ·have hr: ∀z∈x::r,w.toNat<z.1.toNat:=fun z hz=>by
     rcases List.mem_cons.1 hz with rfl|hz
     ·exact g
     ·have:=h1.1 z hz;unfold Lj at this;omega
    have a:Px w (x::r)= []:=by
     unfold Px
     rw [List.filter_eq_nil_iff]
     intro z hz
     have:=hr z hz;simp;omega
    have b:HH w (x::r)=x::r:=by
     unfold HH
     exact List.filter_eq_self.2 fun z hz=>by simpa using hr z hz
    rw [a,b,Ry (fun z hz q=>by have:=hr z hz;rw [q] at this;omega)]
    unfold Bc
    rw [if_neg e,if_pos g];rfl
   ·have hne:x.1.toNat≠w.toNat:=fun q=>e (BitVec.eq_of_toNat_eq q)
    have ih:=Lu (w:=w) (u:=u) h1.2
    have a:Px w (x::r)=x::Px w r:=by
     unfold Px
     rw [List.filter_cons_of_pos (by simp;omega)]
    have b:HH w (x::r)=HH w r:=by
     unfold HH
     rw [List.filter_cons_of_neg (by simpa using g)]
    rw [a,b,MR,if_neg (fun q=>e q.1),List.cons_append,ih]
    conv=>rhs;unfold Bc
    rw [if_neg e,if_neg g]
theorem Wl{w:Bv}{u:Int}{l:List Ls}(h:SrtW l)(k:HH w l≠ []):E7 w u l=Bc w u l:=by
 rw [<-Lu h];unfold E7;rw [if_neg k]
theorem TK{w:Bv}{u:Int}{l:List Ls}(h:SrtW l)(k:HH w l= []):E7 w u l++ [(w,GK w u l)]=Bc w u l:=by
 rw [<-Lu h];unfold E7;rw [if_pos k,k,List.append_nil]
theorem Zf{w:Bv}{u:Int}{l:List Ls}(h:SrtW l): ∀y∈Bc w u l,y.1=w ->y=(w,GK w u l):=fun y hy e=>by
 rw [<-Lu h,List.mem_append] at hy
 rcases hy with hy|hy
 ·have:=(List.mem_filter.1 hy).2
  rw [e] at this;simp at this
 ·rcases List.mem_cons.1 hy with hy|hy
  ·exact hy
  ·have:=(List.mem_filter.1 hy).2
   rw [e] at this;simp at this
theorem Lt{w:Bv}{u:Int}{l:List Ls}{i:Nat}{y:Ls}(h:SrtW l)(hy:(Bc w u l)[i]? =some y)(e:y.1=w):(Bc w u l).set i (w,GK w u l)=Bc w u l:=by
 have:=Zf h y (List.mem_of_getElem? hy) e
 rw [<-this]
 obtain⟨hi,e2⟩:=List.getElem?_eq_some_iff.1 hy
 rw [<-e2,List.set_getElem_self]
theorem QQ(w:Bv)(u:Int)(P:List Ls):(E7 w u P).length<=P.length+1:=by
 have h: ∀P:List Ls,(Px w P).length+(HH w P).length<=P.length:=fun P=>by
  induction P with
  |nil=>exact Nat.le_refl _
  |cons x r ih=>
   unfold Px HH at*
   rw [List.filter_cons,List.filter_cons,List.length_cons]
   split
   ·rename_i q
    rw [if_neg (by simp at q ⊢;omega)]
    rw [List.length_cons];omega
   ·split
    ·rw [List.length_cons];omega
    ·omega
 have:=h P
 unfold E7
 rw [List.length_append]
 split
 ·simp;omega
 ·rw [List.length_cons];omega
structure OKm (X:Ao) (k:KM):Prop where
 hb:Sv [X] (sl k.ba k.e.b.length k.bc) 1 (eU .u8 (w:=8)) k.e.b (k.ba.map fun g=>⟨g,0,none⟩) k.bc
 hl:Sv [X] (sl k.la k.e.ls.length k.lc) 2 C9 k.e.ls (k.la.map fun g=>⟨g,0,none⟩) k.lc
theorem Ez{tU tL:TypeId}{kms:List KM}{A:List Ao}{w:World}(hA:Has A (star (CQ tU tL) kms))(h:sat w A): ∀k∈kms,OKm (star (CQ tU tL) kms) k:=fun k hk=>by
 obtain⟨R,hR⟩:=hA
 have h:=AS hR h
 obtain⟨i,hi,hx⟩:=List.mem_iff_getElem.1 hk
 have hx':kms[i]? =some k:=by rw [List.getElem?_eq_getElem hi,hx]
 have h1:=Gb i hx' h
 have h2:sat w (Aa k.ba k.bc 1 tU (eU .u8 (w:=8)) k.e.b::Aa k.la k.lc 2 tL C9 k.e.ls::star (CQ tU tL) (kms.eraseIdx i)::R):=by
  unfold CQ at h1;exact Bb.1 h1
 have f1:=B1 (a:=k.ba) (cap:=k.bc) (e:=1) (T:=tU) (f:=(eU .u8 (w:=8))) (l:=k.e.b) Has.here h2
 have f2:=B1 (a:=k.la) (cap:=k.lc) (e:=2) (T:=tL) (f:=C9) (l:=k.e.ls) (Has.there Has.here) h2
 have s1:Sv [Aa k.ba k.bc 1 tU (eU .u8 (w:=8)) k.e.b] (sl k.ba k.e.b.length k.bc) 1 (eU .u8 (w:=8)) k.e.b (k.ba.map fun g=>⟨g,0,none⟩) k.bc:=BM (Em .u8 (w:=8)) f1.1 f1.2
 have s2:Sv [Aa k.la k.lc 2 tL C9 k.e.ls] (sl k.la k.e.ls.length k.lc) 2 C9 k.e.ls (k.la.map fun g=>⟨g,0,none⟩) k.lc:=BM encLs f2.1 f2.2
 have op: ∀w',sat w' [CQ tU tL k] ->sat w' [Aa k.ba k.bc 1 tU (eU .u8 (w:=8)) k.e.b,Aa k.la k.lc 2 tL C9 k.e.ls]:=fun w' hw=>by
  unfold CQ at hw;exact Bb.1 hw
 exact⟨Sv.star (F:=CQ tU tL) i hx' (s1.imp fun w' hw=>(Sub.cons Ext.here Sub.nil).sat (op w' hw)),Sv.star (F:=CQ tU tL) i hx' (s2.imp fun w' hw=>(Sub.cons (Ext.there Ext.here) Sub.nil).sat (op w' hw))⟩
end Go.SvM
namespace Go.SvM
open Go.SL Go.ShM Go.RowKit
theorem Yc: ∀ {a b:List B8} {i:Nat},a.length=b.length ->a.take i=b.take i ->i<a.length ->(a.getD i 0#8).toNat≠(b.getD i 0#8).toNat ->(Vx a<Vx b<->(a.getD i 0#8).toNat<(b.getD i 0#8).toNat)/\Vx a≠Vx b
 | [],_,_,_,_,h,_=>by simp at h
 |_::_,[],_,h,_,_,_=>by simp at h
 |x::a,y::b,0,hl,_,_,hne=>by
  have hl:a.length=b.length:=by simpa using hl
  have ha:=Rb a
  have hb:=Rb b
  rw [hl] at ha
  simp only [List.getD_cons_zero] at hne ⊢
  simp only [Vx,hl]
  generalize 256 ^ b.length=M at*
  rcases Nat.lt_or_ge x.toNat y.toNat with q|q
  ·have:=Nat.mul_le_mul_right M q
   rw [Nat.succ_mul] at this
   exact⟨⟨fun _=>q,fun _=>by omega⟩,by omega⟩
  ·have q2:y.toNat<x.toNat:=by omega
   have:=Nat.mul_le_mul_right M q2
   rw [Nat.succ_mul] at this
   exact⟨⟨fun _=>by omega,fun _=>by omega⟩,by omega⟩
 |x::a,y::b,i+1,hl,ht,hi,hne=>by
  have hl:a.length=b.length:=by simpa using hl
  rw [List.take_succ_cons,List.take_succ_cons,List.cons.injEq] at ht
  have ih:=Yc hl ht.2 (by simpa using hi) (by simpa using hne)
  simp only [List.getD_cons_succ]
  simp only [Vx,hl,ht.1]
  rw [<-ih.1]
  exact⟨by omega,by have:=ih.2;omega⟩
theorem KU(k:KV){i:Nat}(h:i<16):(EC k)[0+i*1]? =some (.int .u8 ((k.ix.l.getD i 0#8).toNat:Int)):=by
 have hl:=IS k.ix
 unfold EC FM
 rw [Nat.mul_one,Nat.zero_add,List.getElem?_append_left (by rw [hl];exact h),OF,List.getElem?_map,List.getD_eq_getElem?_getD,List.getElem?_eq_getElem (by rw [k.ix.h];exact h)]
 rfl
theorem Zd{a b:KV}{i:Nat}(ht:a.ix.l.take i=b.ix.l.take i)(hi:i<16)(hne:(a.ix.l.getD i 0#8).toNat≠(b.ix.l.getD i 0#8).toNat):decide ((a.ix.l.getD i 0#8).toNat<(b.ix.l.getD i 0#8).toNat)=decide (Eh a.kp.key b.kp.key):=by
 have h:=Yc (a.ix.h.trans b.ix.h.symm) ht (by rw [a.ix.h];exact hi) hne
 refine decide_eq_decide.2 ?_
 unfold Eh
 show _<->Vx a.ix.l<Vx b.ix.l\/(Vx a.ix.l=Vx b.ix.l/\_)
 rw [<-h.1]
 exact⟨.inl,fun q=>q.elim id fun q=>absurd q.1 h.2⟩
theorem Ze{a b:KV}{i:Nat}(ht:a.ix.l.take i=b.ix.l.take i)(hi:16<=i):decide (a.num<b.num)=decide (Eh a.kp.key b.kp.key):=by
 rw [List.take_of_length_le (by rw [a.ix.h];exact hi),List.take_of_length_le (by rw [b.ix.h];exact hi)] at ht
 refine decide_eq_decide.2 ?_
 unfold Eh
 show _<->Vx a.ix.l<Vx b.ix.l\/(Vx a.ix.l=Vx b.ix.l/\a.num<b.num)
 rw [ht];omega
theorem Z2{a b:Ix}{i:Nat}(ht:a.l.take i=b.l.take i)(hi:i<16)(he:(a.l.getD i 0#8).toNat=(b.l.getD i 0#8).toNat):a.l.take (i+1)=b.l.take (i+1):=by
 rw [BZ (x:=a.l.getD i 0#8) (by rw [List.getD_eq_getElem?_getD,List.getElem?_eq_getElem (by rw [a.h];exact hi)];rfl),BZ (l:=b.l) (x:=b.l.getD i 0#8) (by rw [List.getD_eq_getElem?_getD,List.getElem?_eq_getElem (by rw [b.h];exact hi)];rfl),ht,BitVec.eq_of_toNat_eq he]
theorem UC{l:List Kp}{i:Nat}{e:Kp}(h:l[i]? =some e):C0 (l.take i)+e.b.length=C0 (l.take (i+1)):=by
 rw [BZ h,Fe,E1];rfl
theorem LV{kvs:List KV}{i:Nat}{k:KV}(h:kvs[i]? =some k):(kvs.map KV.kp)[i]? =some k.kp:=by rw [List.getElem?_map,h];rfl
theorem XM{k:KV}{ix:Ix}{num:Int}(h: ¬(k.ix.l=ix.l/\k.num=num)):decide (k.kp.key=(ix,num))=false:=decide_eq_false fun e=>h ⟨congrArg (fun z:Ky=>z.1.l) e,congrArg Prod.snd e⟩
theorem P8{a b:Ix}(h:a.l=b.l):a=b:=by
 obtain⟨l,_⟩:=a
 obtain⟨l',_⟩:=b
 dsimp only at h
 subst h;rfl
theorem Zj{k:KV}{ix:Ix}{num:Int}(h1:k.ix.l=ix.l)(h2:k.num=num):decide (k.kp.key=(ix,num))=true:=decide_eq_true (Prod.ext (P8 h1) h2)
theorem Tb{o:Option Nat}{i:Nat}(h:o=some i):Value.int .i64 ((i:Nat):Int)= .int .i64 (GA o):=by rw [h];rfl
theorem Ta{o:Option Nat}(h:o=none):Value.int .i64 (-1)= .int .i64 (GA o):=by rw [h];rfl
def Nj(ix:Ix)(l:List Kp):List Kp:=l.filter fun e=>decide (e.ix=ix)
def CB(ix:Ix)(l:List Kp):List Int:=(Nj ix l).map Kp.num
def Gr(ix:Ix)(l:List Kp):List Int:=(Nj ix l).map fun e=>((e.b.length:Nat):Int)
theorem Hq(ix:Ix)(l:List Kp):CB ix l=B9 ix (fun _=>true) l:=by
 unfold CB Nj B9
 congr 1
 exact List.filter_congr fun e _=>by simp
theorem Ip{ix:Ix}{l:List Kp}{i:Nat}{e:Kp}(h:l[i]? =some e):Nj ix (l.take (i+1))=if e.ix=ix then Nj ix (l.take i)++ [e] else Nj ix (l.take i):=by
 unfold Nj
 rw [BZ h,List.filter_append]
 by_cases q:e.ix=ix
 ·rw [if_pos q,List.filter_cons_of_pos (by simpa using q)];rfl
 ·rw [if_neg q,List.filter_cons_of_neg (by simpa using q),List.filter_nil,List.append_nil]
theorem Ws{ix:Ix}{l:List Kp}{i:Nat}{e:Kp}(h:l[i]? =some e)(q:e.ix=ix):CB ix (l.take i)++ [e.num]=CB ix (l.take (i+1)):=by
 unfold CB;rw [Ip h,if_pos q,List.map_append];rfl
theorem Z3{ix:Ix}{l:List Kp}{i:Nat}{e:Kp}(h:l[i]? =some e)(q:e.ix=ix):Gr ix (l.take i)++ [((e.b.length:Nat):Int)]=Gr ix (l.take (i+1)):=by
 unfold Gr;rw [Ip h,if_pos q,List.map_append];rfl
theorem ZQ{ix:Ix}{l:List Kp}{i:Nat}{e:Kp}(h:l[i]? =some e)(q: ¬e.ix=ix):CB ix (l.take i)=CB ix (l.take (i+1)):=by
 unfold CB;rw [Ip h,if_neg q]
theorem cY{ix:Ix}{l:List Kp}{i:Nat}{e:Kp}(h:l[i]? =some e)(q: ¬e.ix=ix):Gr ix (l.take i)=Gr ix (l.take (i+1)):=by
 unfold Gr;rw [Ip h,if_neg q]
theorem Wu(ix:Ix)(l:List Kp):(CB ix l).length<=l.length/\(Gr ix l).length=(CB ix l).length:=by
 unfold CB Gr Nj
 rw [List.length_map,List.length_map];exact⟨List.length_filter_le _ _,rfl⟩
end Go.SvM
namespace Go.Proofs.YtoakfknnaiapiaaGreat
open Go.RowKit Go.SL Go.ShM Go.SvM
set_option maxHeartbeats 1000000
set_option maxRecDepth 20000
set_option linter.all false
theorem ew:sz Tryz.prog 49=some 27:=by kernel_rfl
theorem cV:tk Tryz.prog 49=some (some 27):=by kernel_rfl
theorem cU:Tryz.prog.underlying 25=some (.slice 49):=by kernel_rfl
theorem II{X:Ao}{p:Nat}{v:Value}{kvs:List KV}{ao:Option Addr}{cap:Nat}{room tick:Int}(hV:Sv [X] v 19 EC kvs ao cap)(hn:kvs.length<=100000000)(hu:C0 (kvs.map KV.kp)<=4000000000000):Ct Tryz.prog 31 [.pointer (some ⟨p,0,none⟩)] [cl p 24 [.int .i64 room,.int .i64 tick,v],X] (fun _:Unit=>.int .i64 (((C0 (kvs.map KV.kp)):Nat):Int)) (fun _=> [cl p 24 [.int .i64 room,.int .i64 tick,v],X]):=by
 refine AY (n:=26) Tryz.func31 I I I fun F w0 Q hret hnorm hp=>?_
 change WC _ _ _ _ _ _ _ (_::_::F)
 refine A4 fun _ K1=>wA I I<|A3 K1<|A4 fun _ K2=>wA I I<|A3 K2<|A7 fun _ K3=>A4 fun _ K4=>wA I I<|A3 K4<|AG<|Ak (σ:=Nat) (fun i=> [(3,.int .i64 (((C0 ((kvs.map KV.kp).take i)):Nat):Int)),(4,.int .i64 ((i:Nat):Int))]) (fun i=> []) (fun i=>i<=kvs.length) (fun i=>kvs.length -i) (0) [0,2,25] Cw D8 ?_ ?_ Sub.refl ?_
 ·exact Nat.zero_le _
 ·(try dsimp only);exact(Wk.cons Ch (Wk.cons Ch Wk.nil))
 rintro i hi K5 K5
 simp only [List.cons_append,List.nil_append]
 refine A7 fun _ K6=>A4 fun _ K7=>wM I I<|wM I I<|A2 (A9 I) I<|A2 (A1 I BB) I<|A2 (A6 I CL (v:=v)) I<|A2 (Al I I BV (hA:=hV)) I ?_
 refine A2 (An I I) I<|A3 K7<|AH I (fun hc0=>?_) (fun hc0=>?_)
 ·try simp only [dz] at hc0
  obtain⟨k,hk⟩: ∃k,kvs[i]? =some k:=⟨_,List.getElem?_eq_getElem (by omega)⟩
  have hkp:=LV hk
  have hub:=Np (l:=kvs.map KV.kp) (i+1)
  have hus:C0 ((kvs.map KV.kp).take i)+k.b.l.length=C0 ((kvs.map KV.kp).take (i+1)):=UC hkp
  refine AA<|A5 K6<|A7 fun _ K8=>AG<|AD<|wM I I<|wM I I<|A2 (A9 I) I<|A2 (A1 I BB) I<|A2 (A6 I CL (v:=v)) I<|wM I I<|A2 (AO i I I BV C6 (hA:=hV) (hi:=by omega)) I ?_
  refine A2 (A1 I C4) I<|A2 (Af (f:=EC) (i:=i) (j:=17) (y:=k) I Bg (hA:=hV) (hl:=hk) (hv:=GL k)) I ?_
  refine A2 (AL (v:=.int .i64 ((k.b.l.length:Nat):Int)) (BA I I BQ) I) I<|A2 (AN I I) I<|wA I I<|AW<|A5 K8<|AD ?_
  rw [show C0 (List.take i (kvs.map KV.kp))+k.b.l.length=C0 (List.take (i+1) (kvs.map KV.kp)) from hus]
  refine wM I I<|A2 (AN (j:=1) I I) I<|wA I I<|AW<|Az (K5 (i+1) (by omega) (by omega))
 try simp only [dz] at hc0
 obtain rfl:i=kvs.length:=by omega
 rw [List.take_of_length_le (by rw [List.length_map];exact Nat.le_refl _)]
 refine Aj<|A5 K3<|A4 fun _ K9=>wM I I<|wA I I<|A3 K9<|AK ?_
 exact hret.gf () (BR rfl rfl)

theorem DX{X:Ao}{p:Nat}{v:Value}{kvs:List KV}{ao:Option Addr}{cap:Nat}{room tick:Int}{ix:Ix}{num:Int}(hV:Sv [X] v 19 EC kvs ao cap)(hn:kvs.length<=100000000):Ct Tryz.prog 55 [.pointer (some ⟨p,0,none⟩),aU .u8 ix.l,.int .i64 num] [cl p 24 [.int .i64 room,.int .i64 tick,v],X] (fun _:Unit=>.int .i64 ((GA (Ed (ix,num) (kvs.map KV.kp))))) (fun _=> [cl p 24 [.int .i64 room,.int .i64 tick,v],X]):=by
 refine AY (n:=40) Tryz.func55 I I I fun F w0 Q hret hnorm hp=>?_
 change WC _ _ _ _ _ _ _ (_::_::F)
 have hixl:=ix.h
 refine A4 fun _ K1=>AB (Pu (k:=.u8) I) I I I ?_
 rintro _ _ ⟨b4,rfl,rfl⟩
 refine wA I I<|A3 K1<|A7 fun _ K2=>A4 fun _ K3=>wA I I<|A3 K3<|AG<|Ak (σ:=Nat) (fun i=> [(7,.int .i64 ((i:Nat):Int))]) (fun i=> []) (fun i=>i<=kvs.length/\(∀e∈(kvs.map KV.kp).take i,decide (e.key=(ix,num))=false)) (fun i=>kvs.length -i) (0) [0,2,4] Cw D8 ?_ ?_ Sub.refl ?_
 ·exact⟨Nat.zero_le _,fun e h=>by simp at h⟩
 ·(try dsimp only);exact(Wk.cons Ch Wk.nil)
 rintro i ⟨hi,hall⟩ K4 K4
 simp only [List.cons_append,List.nil_append]
 refine A7 fun _ K5=>A4 fun _ K6=>wM I I<|wM I I<|A2 (A9 I) I<|A2 (A1 I BB) I<|A2 (A6 I CL (v:=v)) I<|A2 (Al I I BV (hA:=hV)) I ?_
 refine A2 (An I I) I<|A3 K6<|AH I (fun hc0=>?_) (fun hc0=>?_)
 ·try simp only [dz] at hc0
  obtain⟨k,hk⟩: ∃k,kvs[i]? =some k:=⟨_,List.getElem?_eq_getElem (by omega)⟩
  have hkp:=LV hk
  refine AA<|A5 K5<|A7 fun _ K7=>AG<|A7 fun _ K8=>Am CE (fun _=>2) ?_
  refine jM 0 I I I hp<|jP 1 I (A9 I) I hp<|jP 2 I (A1 I BB) I hp<|jT 3 I (A6 I CL (v:=v)) I hp AQ<|jM 4 I I I hp<|jP 5 I (AO i I I BV C6 (hA:=hV) (hi:=by omega)) I hp ?_
  refine jP 6 I (A1 I FO) I hp<|jT 7 I (I2 (f:=EC) (i:=i) (j:=0) (y:=k) (vs:=k.ix.l.flatMap (eU .u8)) I Cv (hA:=hV) (hl:=hk) (hv:=L8 k) (hjk:=by rw [H8];omega)) I hp AQ ?_
  refine jT 8 I (NY I Cv) I hp AQ ?_
  refine jP 9 I (Pp I I LY k.ix.h ix.h) I hp ?_
  refine jM 10 I I I hp<|Be 27 I (fun hg9=>?_) (fun hg9=>?_)
  ·try simp only [dz] at hg9
   refine jM 11 I I I hp<|jP 12 I (A9 I) I hp<|jP 13 I (A1 I BB) I hp<|jT 14 I (A6 I CL (v:=v)) I hp AQ<|jM 15 I I I hp<|jP 16 I (AO i I I BV C6 (hA:=hV) (hi:=by omega)) I hp ?_
   refine jP 17 I (A1 I E4) I hp<|jT 18 I (Af (f:=EC) (i:=i) (j:=16) (y:=k) I BF (hA:=hV) (hl:=hk) (hv:=ES k)) I hp AQ ?_
   refine jM 19 I I I hp<|jP 20 I (CW I I) I hp<|jP 21 I (AC I I) I hp<|jD<|A5 K8<|AH I (fun hc1=>?_) (fun hc1=>?_)
   ·try simp only [dz] at hc1
    have hyes:=Zj (k:=k) (ix:=ix) (num:=num) (by first|assumption|simp_all) (by first|assumption|simp_all)
    refine A4 fun _ K10=>wM I I<|wA I I<|A3 K10<|AK ?_
    exact hret.gfE () (BR rfl rfl) (Tb (XU hkp hyes hall))
   try simp only [dz] at hc1
   have hno:=XM (k:=k) (ix:=ix) (num:=num) (by first|(intro z;simp_all;done)|grind)
   refine AA<|A5 K7<|AD<|wM I I<|A2 (AN (j:=1) I I) I<|wA I I<|AW<|Az (K4 (i+1) (⟨by omega,Oe hkp hall hno⟩) (by omega))
  try simp only [dz] at hg9
  refine jK 11 I I hp<|jK 12 I I hp<|jK 13 I I hp<|jK 14 I I hp<|jK 15 I I hp<|jK 16 I I hp<|jK 17 I I hp<|jK 18 I I hp<|jK 19 I I hp<|jK 20 I I hp<|jP 21 I (A8 I I) I hp<|jD<|A5 K8<|AM I ?_
  have hno:=XM (k:=k) (ix:=ix) (num:=num) (by first|(intro z;simp_all;done)|grind)
  refine AA<|A5 K7<|AD<|wM I I<|A2 (AN (j:=1) I I) I<|wA I I<|AW<|Az (K4 (i+1) (⟨by omega,Oe hkp hall hno⟩) (by omega))
 try simp only [dz] at hc0
 obtain rfl:i=kvs.length:=by omega
 rw [List.take_of_length_le (by rw [List.length_map];exact Nat.le_refl _)] at hall
 refine Aj<|A5 K2<|A4 fun _ K11=>wA I I<|A3 K11<|AK ?_
 exact hret.gfE () (BR rfl rfl) (Ta (Qt hall))

theorem J6{X:Ao}{k:KV}{w:Bv}(hS:Sv [X] k.ls.v 2 C9 k.ls.l k.ls.ao k.ls.cap)(hl:k.ls.l.length<=900000000000):Ct Tryz.prog 92 [.agg (EC k).toArray,.int .u32 ((w.toNat:Nat):Int)] [X] (fun _:Unit=>.int .i64 ((GA (Gm w k.ls.l)))) (fun _=> [X]):=by
 refine AY (n:=22) Tryz.func92 I I I fun F w0 Q hret hnorm hp=>?_
 change WC _ _ _ _ _ _ _ (_::F)
 refine A4 fun _ K1=>AB (Ay (xs:=EC k) I I) I I I ?_
 rintro _ _ ⟨b2,rfl,rfl⟩
 refine wA I I<|A3 K1<|A7 fun _ K2=>A4 fun _ K3=>wA I I<|A3 K3<|AG<|Ak (σ:=Nat) (fun i=> [(5,.int .i64 ((i:Nat):Int))]) (fun i=> []) (fun i=>i<=k.ls.l.length/\(∀x∈k.ls.l.take i,decide (x.1=w)=false)) (fun i=>k.ls.l.length -i) (0) [1,2] Cw D8 ?_ ?_ Sub.refl ?_
 ·exact⟨Nat.zero_le _,fun e h=>by simp at h⟩
 ·(try dsimp only);exact(Wk.cons Ch Wk.nil)
 rintro i ⟨hi,hall⟩ K4 K4
 simp only [List.cons_append,List.nil_append]
 refine A7 fun _ K5=>A4 fun _ K6=>wM I I<|A2 (A1 I Ca) I<|A2 (A6 I EP (v:=k.ls.v) (hi:=GE k)) I<|A2 (Al I I Bw (hA:=hS)) I ?_
 refine A2 (An I I) I<|A3 K6<|AH I (fun hc0=>?_) (fun hc0=>?_)
 ·try simp only [dz] at hc0
  obtain⟨y,hy⟩: ∃y,k.ls.l[i]? =some y:=⟨_,List.getElem?_eq_getElem (by omega)⟩
  refine AA<|A5 K5<|A7 fun _ K7=>AG<|A4 fun _ K8=>A2 (A1 I Ca) I<|A2 (A6 I EP (v:=k.ls.v) (hi:=GE k)) I<|wM I I<|A2 (AO i I I Bw DD (hA:=hS) (hi:=by omega)) I ?_
  refine A2 (A1 I Cf) I<|A2 (Af (f:=C9) (i:=i) (j:=0) (y:=y) I BX (hA:=hS) (hl:=hy) (hv:=I)) I ?_
  refine wM I I<|A2 (DL I I) I<|A3 K8<|AH I (fun hc1=>?_) (fun hc1=>?_)
  ·try simp only [dz] at hc1
   have hyes:decide (y.1=w)=true:=decide_eq_true (by first|assumption|exact BitVec.eq_of_toNat_eq (by omega))
   refine A4 fun _ K9=>wM I I<|wA I I<|A3 K9<|AK ?_
   exact hret.gfE () (BR rfl rfl) (Tb (XU hy hyes hall))
  try simp only [dz] at hc1
  have hno:decide (y.1=w)=false:=decide_eq_false (by first|assumption|(intro z;rw [z] at hc1;exact hc1 rfl)|(intro z;simp_all))
  refine AA<|A5 K7<|AD<|wM I I<|A2 (AN (j:=1) I I) I<|wA I I<|AW<|Az (K4 (i+1) (⟨by omega,Oe hy hall hno⟩) (by omega))
 try simp only [dz] at hc0
 obtain rfl:i=k.ls.l.length:=by omega
 rw [List.take_length] at hall
 refine Aj<|A5 K2<|A4 fun _ K10=>wA I I<|A3 K10<|AK ?_
 exact hret.gfE () (BR rfl rfl) (Ta (Qt hall))

theorem Mx{a b:KV} :Ct Tryz.prog 50 [.agg (EC a).toArray,.agg (EC b).toArray] [] (fun _:Unit=>.bool (decide (Eh a.kp.key b.kp.key))) (fun _=> []):=by
 refine AY (n:=33) Tryz.func50 I I I fun F w0 Q hret hnorm hp=>?_
 change WC _ _ _ _ _ _ _ (F)
 refine A4 fun _ K1=>AB (Ay (xs:=EC a) I I) I I I ?_
 rintro _ _ ⟨b2,rfl,rfl⟩
 refine AB (Ay (xs:=EC b) I I) I I I ?_
 rintro _ _ ⟨b3,rfl,rfl⟩
 refine wA I I<|A3 K1<|A7 fun _ K2=>A4 fun _ K3=>wA I I<|A3 K3<|AG<|Ak (σ:=Nat) (fun i=> [(5,.int .i64 ((i:Nat):Int))]) (fun i=> []) (fun i=>i<=16/\a.ix.l.take i=b.ix.l.take i) (fun i=>16 -i) (0) [2,3,28,29,30,31,32] Cw D8 ?_ ?_ Sub.refl ?_
 ·exact⟨Nat.zero_le _,rfl⟩
 ·(try dsimp only);exact(Wk.cons Ch Wk.nil)
 rintro i ⟨hi,hall⟩ K4 K4
 simp only [List.cons_append,List.nil_append]
 refine A7 fun _ K5=>A4 fun _ K6=>wM I I<|A2 (An (j:=16) I I) I<|A3 K6<|AH I (fun hc0=>?_) (fun hc0=>?_)
 ·try simp only [dz] at hc0
  refine AA<|A5 K5<|A7 fun _ K7=>AG<|A7 fun _ K8=>Am CE (fun _=>2) ?_
  refine jM 0 I I I hp<|jP 1 I (A1 I FO) I hp<|jP 2 I (Cu i I I UD Ki I (by omega)) I hp ?_
  refine jT 3 I (A6 I Vq (v:=.int .u8 (((a.ix.l.getD i 0#8).toNat:Nat):Int)) (hi:=KU a (by omega))) I hp AQ<|jM 4 I I I hp<|jP 5 I (A1 I FO) I hp<|jP 6 I (Cu i I I UD Ki I (by omega)) I hp ?_
  refine jT 7 I (A6 I Vq (v:=.int .u8 (((b.ix.l.getD i 0#8).toNat:Nat):Int)) (hi:=KU b (by omega))) I hp AQ<|jP 8 I (AL (v:=.bool (decide ((a.ix.l.getD i 0#8).toNat≠(b.ix.l.getD i 0#8).toNat))) (Dy I I) (congrArg Value.bool (by first|(congr 1;simp;done)|(rw [Bool.eq_iff_iff];simp;omega)))) I hp ?_
  refine jD<|A5 K8<|AH I (fun hc1=>?_) (fun hc1=>?_)
  ·try simp only [dz] at hc1
   refine A7 fun _ K9=>Am CE (fun _=>2) ?_
   refine jM 0 I I I hp<|jP 1 I (A1 I FO) I hp<|jP 2 I (Cu i I I UD Ki I (by omega)) I hp ?_
   refine jT 3 I (A6 I Vq (v:=.int .u8 (((a.ix.l.getD i 0#8).toNat:Nat):Int)) (hi:=KU a (by omega))) I hp AQ<|jM 4 I I I hp<|jP 5 I (A1 I FO) I hp<|jP 6 I (Cu i I I UD Ki I (by omega)) I hp ?_
   refine jT 7 I (A6 I Vq (v:=.int .u8 (((b.ix.l.getD i 0#8).toNat:Nat):Int)) (hi:=KU b (by omega))) I hp AQ<|jP 8 I (AL (v:=.bool (decide ((a.ix.l.getD i 0#8).toNat<(b.ix.l.getD i 0#8).toNat))) (Bt I I) (congrArg Value.bool (decide_eq_decide.2 (by omega)))) I hp<|jP 9 I (Ag I) I hp<|jD<|A5 K9<|AK ?_
   exact hret.gfE () (BR rfl rfl) (congrArg Value.bool (Zd hall (by omega) (by first|assumption|omega|simp_all)))
  try simp only [dz] at hc1
  refine AA<|A5 K7<|AD<|wM I I<|A2 (AN (j:=1) I I) I<|wA I I<|AW<|Az (K4 (i+1) (⟨by omega,Z2 hall (by omega) (by first|assumption|omega|simp_all)⟩) (by omega))
 try simp only [dz] at hc0
 refine Aj<|A5 K2<|A4 fun _ K10=>A2 (A1 I E4) I<|A2 (A6 I BF (v:=.int .i64 a.num) (hi:=ES a)) I<|A2 (A1 I E4) I<|A2 (A6 I BF (v:=.int .i64 b.num) (hi:=ES b)) I<|A2 (Bt I I) I<|wA I I<|A3 K10<|AK ?_
 exact hret.gfE () (BR rfl rfl) (congrArg Value.bool (Ze hall (by omega)))
end Go.Proofs.YtoakfknnaiapiaaGreat
