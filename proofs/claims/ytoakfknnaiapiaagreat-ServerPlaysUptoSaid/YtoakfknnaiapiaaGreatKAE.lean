/-
  Contracts of functions that the claim reaches, or the logic and the plain laws that they rest on, or the row over them. (Conditions: none beyond the statement.)
-/
import Derived.Test.YtoakfknnaiapiaaGreatKAD
import Derived.Test.YtoakfknnaiapiaaGreatKAA
import Derived.Test.YtoakfknnaiapiaaGreatLibA
import Derived.Test.YtoakfknnaiapiaaGreatKAC
import Derived.Test.YtoakfknnaiapiaaGreatLibB
import Derived.Test.YtoakfknnaiapiaaGreatKAB
import Derived.Lib.BytesEntry
set_option linter.all false
namespace Go.Proofs.YtoakfknnaiapiaaGreat
open Go.RowKit Go.SL Go.ShM Go.SvM
set_option maxHeartbeats 1000000
set_option maxRecDepth 20000
set_option linter.all false

def JM(k:B8):Nat:=if k=1#8 then 68 else if k=2#8 then 69 else if k=3#8 then 70 else if k=4#8 then 71 else 72
section
variable {b m : Nat} {room tick : Int} {L : List En} {r : Rq} {Y : Ao}
theorem Zy(hm:MayR r)(hk:r.kind=3#8){rp:Rp}{l2:List Kp}(h:(FU (L.map En.e) r,L.map En.e)=(rp,l2)):Ct Tryz.prog 70 [.pointer (some ⟨b,0,none⟩),.agg (CP r).toArray] [cl b 90 [.bool true,.int .i64 room,.int .i64 tick,.int .i64 (((Ap L):Nat):Int),.map (some m)],Bs m By Cc (L.map En.kp),star (Cb 102 5) L,Y] (fun g: {g:List En × (Option Nat × Nat) × (Option Nat × Nat) // g.1.map En.e=l2} =>.agg [.int .u8 rp.kind,sl g.1.2.1.1 rp.ns.length g.1.2.1.2,sl g.1.2.2.1 rp.bs.length g.1.2.2.2].toArray) (fun g=> [cl b 90 [.bool true,.int .i64 room,.int .i64 tick,.int .i64 (((Ap g.1.1):Nat):Int),.map (some m)],Bs m By Cc (g.1.1.map En.kp),star (Cb 102 5) g.1.1,Y,Aa g.1.2.1.1 g.1.2.1.2 1 3 eI rp.ns,Aa g.1.2.2.1 g.1.2.2.2 1 5 (eU .u8 (w:=8)) rp.bs]):=by
 have hf3:=hm.fetch hk
 cases hf:DV (r.ix,r.num) L with
 |none=>
  rw [OI (by rw [FT,hf];rfl)] at h
  cases h
  exact HA ((Xf hf).frame [Y]) (fun g=>⟨(L,(none,0),(none,0)),rfl⟩) (fun g=>rfl) (fun g F w h=>by
   simp only [List.cons_append,List.nil_append] at h ⊢
   exact AS (show Gv _ [cl b 90 [.bool true,.int .i64 room,.int .i64 tick,.int .i64 (((Ap L):Nat):Int),.map (some m)],Bs m By Cc (L.map En.kp),star (Cb 102 5) L,Y,Aa none 0 1 3 eI [],Aa none 0 1 5 (eU .u8 (w:=8)) []] F from Gu) (BO (e:=1) (T:=5) (f:=(eU .u8 (w:=8))) (BO (e:=1) (T:=3) (f:=eI) h)))
 |some x=>
  obtain⟨A,B,rfl,hkey⟩:=Hx hf
  by_cases h3:(x.e.b.length:Int)<r.at_+r.len
  ·rw [NE (by rw [FT,hf];rfl) h3] at h
   cases h
   exact HA ((V1 hf hf3.1 hf3.2 h3).frame [Y]) (fun g=>⟨((A++x::B),(none,0),(none,0)),rfl⟩) (fun g=>rfl) (fun g F w h=>by
   simp only [List.cons_append,List.nil_append] at h ⊢
   exact AS (show Gv _ [cl b 90 [.bool true,.int .i64 room,.int .i64 tick,.int .i64 (((Ap (A++x::B)):Nat):Int),.map (some m)],Bs m By Cc ((A++x::B).map En.kp),star (Cb 102 5) (A++x::B),Y,Aa none 0 1 3 eI [],Aa none 0 1 5 (eU .u8 (w:=8)) []] F from Gu) (BO (e:=1) (T:=5) (f:=(eU .u8 (w:=8))) (BO (e:=1) (T:=3) (f:=eI) h)))
  ·rw [OJ (by rw [FT,hf];rfl) h3] at h
   cases h
   exact HA ((Xg hf (at':=r.at_.toNat) (ln':=r.len.toNat) (by omega) (by omega) (by omega) (by omega) (by omega)).frame [Y]) (fun g=>⟨((A++x::B),(none,0),g),rfl⟩) (fun g=>rfl) (fun g F w h=>by
   simp only [List.cons_append,List.nil_append] at h ⊢
   exact AS (show Gv _ [cl b 90 [.bool true,.int .i64 room,.int .i64 tick,.int .i64 (((Ap (A++x::B)):Nat):Int),.map (some m)],Bs m By Cc ((A++x::B).map En.kp),star (Cb 102 5) (A++x::B),Y,Aa none 0 1 3 eI [],Aa g.1 g.2 1 5 (eU .u8 (w:=8)) ((x.e.b.take (r.at_.toNat+r.len.toNat)).drop r.at_.toNat)] F from Gu) (BO (e:=1) (T:=3) (f:=eI) h))
theorem ZA(hw:Wf room ⟨tick,L.map En.e⟩)(hm:MayR r)(hB:Sv [Y] r.b.v 1 (eU .u8 (w:=8)) r.b.l r.b.ao r.b.cap){rp:Rp}{l2:List Kp}(h:E2 room (L.map En.e) r=(rp,l2)):Ct Tryz.prog 69 [.pointer (some ⟨b,0,none⟩),.agg (CP r).toArray] [cl b 90 [.bool true,.int .i64 room,.int .i64 tick,.int .i64 (((Ap L):Nat):Int),.map (some m)],Bs m By Cc (L.map En.kp),star (Cb 102 5) L,Y] (fun g: {g:List En × (Option Nat × Nat) × (Option Nat × Nat) // g.1.map En.e=l2} =>.agg [.int .u8 rp.kind,sl g.1.2.1.1 rp.ns.length g.1.2.1.2,sl g.1.2.2.1 rp.bs.length g.1.2.2.2].toArray) (fun g=> [cl b 90 [.bool true,.int .i64 room,.int .i64 tick,.int .i64 (((Ap g.1.1):Nat):Int),.map (some m)],Bs m By Cc (g.1.1.map En.kp),star (Cb 102 5) g.1.1,Y,Aa g.1.2.1.1 g.1.2.1.2 1 3 eI rp.ns,Aa g.1.2.2.1 g.1.2.2.2 1 5 (eU .u8 (w:=8)) rp.bs]):=by
 have hus:(Ap L:Int)<=room:=hw.used
 have hrm:=hw.rm
 cases hf:DV (r.ix,r.num) L with
 |none=>
  by_cases h3:room -(C0 (L.map En.e):Int)<(r.b.l.length:Int)
  ·rw [LN (by rw [FT,hf];rfl) h3] at h
   cases h
   exact HA (S3 hf hB hm.len (by omega) hrm h3) (fun g=>⟨(L,(none,0),(none,0)),rfl⟩) (fun g=>rfl) (fun g F w h=>by
   simp only [List.cons_append,List.nil_append] at h ⊢
   exact AS (show Gv _ [cl b 90 [.bool true,.int .i64 room,.int .i64 tick,.int .i64 (((Ap L):Nat):Int),.map (some m)],Bs m By Cc (L.map En.kp),star (Cb 102 5) L,Y,Aa none 0 1 3 eI [],Aa none 0 1 5 (eU .u8 (w:=8)) []] F from Gu) (BO (e:=1) (T:=5) (f:=(eU .u8 (w:=8))) (BO (e:=1) (T:=3) (f:=eI) h)))
  ·rw [MY (by rw [FT,hf];rfl) h3] at h
   cases h
   exact HA (UI hf hB hm.len (by omega) hrm (by rw [Ei];omega)) (fun g=>⟨(Gy (⟨⟨r.ix,r.num,r.b.l,[(r.who,r.un)]⟩,g.p,g.a,g.cap,g.m⟩:En) L,(none,0),(none,0)),XQ _ _⟩) (fun g=>rfl) (fun g F w h=>by
   simp only [List.cons_append,List.nil_append] at h ⊢
   exact AS (show Gv _ [cl b 90 [.bool true,.int .i64 room,.int .i64 tick,.int .i64 (((Ap (Gy (⟨⟨r.ix,r.num,r.b.l,[(r.who,r.un)]⟩,g.p,g.a,g.cap,g.m⟩:En) L)):Nat):Int),.map (some m)],Bs m By Cc ((Gy (⟨⟨r.ix,r.num,r.b.l,[(r.who,r.un)]⟩,g.p,g.a,g.cap,g.m⟩:En) L).map En.kp),star (Cb 102 5) (Gy (⟨⟨r.ix,r.num,r.b.l,[(r.who,r.un)]⟩,g.p,g.a,g.cap,g.m⟩:En) L),Y,Aa none 0 1 3 eI [],Aa none 0 1 5 (eU .u8 (w:=8)) []] F from Gu) (BO (e:=1) (T:=5) (f:=(eU .u8 (w:=8))) (BO (e:=1) (T:=3) (f:=eI) h)))
 |some x=>
  obtain⟨A,B,rfl,hkey⟩:=Hx hf
  have hfK:EF (r.ix,r.num) ((A++x::B).map En.e)=some x.e:=by rw [FT,hf];rfl
  by_cases h3:x.e.b=r.b.l
  ·by_cases h4:Bi r.who x.e.ls=false/\64<=x.e.ls.length
   ·rw [LL hfK h3 h4] at h
    cases h
    exact HA (S1 hf hB h3 h4.1 h4.2) (fun g=>⟨((A++x::B),(none,0),(none,0)),rfl⟩) (fun g=>rfl) (fun g F w h=>by
   simp only [List.cons_append,List.nil_append] at h ⊢
   exact AS (show Gv _ [cl b 90 [.bool true,.int .i64 room,.int .i64 tick,.int .i64 (((Ap (A++x::B)):Nat):Int),.map (some m)],Bs m By Cc ((A++x::B).map En.kp),star (Cb 102 5) (A++x::B),Y,Aa none 0 1 3 eI [],Aa none 0 1 5 (eU .u8 (w:=8)) []] F from Gu) (BO (e:=1) (T:=5) (f:=(eU .u8 (w:=8))) (BO (e:=1) (T:=3) (f:=eI) h)))
   ·rw [LM hfK h3 h4] at h
    cases h
    have h5:Bi r.who x.e.ls=true\/x.e.ls.length<64:=by
     by_cases q:Bi r.who x.e.ls=true
     ·exact .inl q
     ·exact .inr (Nat.lt_of_not_le fun z=>h4 ⟨by simpa using q,z⟩)
    exact HA (S2 hf hB h3 h5 (hw.ws x.e (by simp)) hm.un.1) (fun g=>⟨((A++x.put (x.e.with (Bc r.who r.un x.e.ls))::B),(none,0),(none,0)),(WN hw.srt hkey).symm⟩) (fun g=>rfl) (fun g F w h=>by
   simp only [List.cons_append,List.nil_append] at h ⊢
   exact AS (show Gv _ [cl b 90 [.bool true,.int .i64 room,.int .i64 tick,.int .i64 (((Ap (A++x.put (x.e.with (Bc r.who r.un x.e.ls))::B)):Nat):Int),.map (some m)],Bs m By Cc ((A++x.put (x.e.with (Bc r.who r.un x.e.ls))::B).map En.kp),star (Cb 102 5) (A++x.put (x.e.with (Bc r.who r.un x.e.ls))::B),Y,Aa none 0 1 3 eI [],Aa none 0 1 5 (eU .u8 (w:=8)) []] F from Gu) (BO (e:=1) (T:=5) (f:=(eU .u8 (w:=8))) (BO (e:=1) (T:=3) (f:=eI) h)))
  ·rw [Jw hfK h3] at h
   cases h
   exact HA (Q6 hf hB h3) (fun g=>⟨((A++x::B),(none,0),(none,0)),rfl⟩) (fun g=>rfl) (fun g F w h=>by
   simp only [List.cons_append,List.nil_append] at h ⊢
   exact AS (show Gv _ [cl b 90 [.bool true,.int .i64 room,.int .i64 tick,.int .i64 (((Ap (A++x::B)):Nat):Int),.map (some m)],Bs m By Cc ((A++x::B).map En.kp),star (Cb 102 5) (A++x::B),Y,Aa none 0 1 3 eI [],Aa none 0 1 5 (eU .u8 (w:=8)) []] F from Gu) (BO (e:=1) (T:=5) (f:=(eU .u8 (w:=8))) (BO (e:=1) (T:=3) (f:=eI) h)))
theorem TP(hw:Wf room ⟨tick,L.map En.e⟩)(hm:MayR r)(hB:Sv [Y] r.b.v 1 (eU .u8 (w:=8)) r.b.l r.b.ao r.b.cap)(hn:L.length<=100000000){rp:Rp}{l2:List Kp}(h:PQ room (L.map En.e) r=(rp,l2)):Ct Tryz.prog (JM r.kind) [.pointer (some ⟨b,0,none⟩),.agg (CP r).toArray] [cl b 90 [.bool true,.int .i64 room,.int .i64 tick,.int .i64 (((Ap L):Nat):Int),.map (some m)],Bs m By Cc (L.map En.kp),star (Cb 102 5) L,Y] (fun g: {g:List En × (Option Nat × Nat) × (Option Nat × Nat) // g.1.map En.e=l2} =>.agg [.int .u8 rp.kind,sl g.1.2.1.1 rp.ns.length g.1.2.1.2,sl g.1.2.2.1 rp.bs.length g.1.2.2.2].toArray) (fun g=> [cl b 90 [.bool true,.int .i64 room,.int .i64 tick,.int .i64 (((Ap g.1.1):Nat):Int),.map (some m)],Bs m By Cc (g.1.1.map En.kp),star (Cb 102 5) g.1.1,Y,Aa g.1.2.1.1 g.1.2.1.2 1 3 eI rp.ns,Aa g.1.2.2.1 g.1.2.2.2 1 5 (eU .u8 (w:=8)) rp.bs]):=by
 have hus:(Ap L:Int)<=room:=hw.used
 have hrm:=hw.rm
 rcases hm.kind with hk|hk|hk|hk|hk
 ·rw [c7 hk] at h
  cases h
  rw [show JM r.kind=68 from by rw [hk];rfl]
  exact HA ((Zt hw.srt hn).frame [Y]) (fun g=>⟨(L,g,(none,0)),rfl⟩) (fun g=>rfl) (fun g F w h=>by
   simp only [List.cons_append,List.nil_append] at h ⊢
   exact AS (show Gv _ [cl b 90 [.bool true,.int .i64 room,.int .i64 tick,.int .i64 (((Ap L):Nat):Int),.map (some m)],Bs m By Cc (L.map En.kp),star (Cb 102 5) L,Y,Aa g.1 g.2 1 3 eI (B9 r.ix (fun _=>true) (L.map En.e)),Aa none 0 1 5 (eU .u8 (w:=8)) []] F from Gu) (BO (e:=1) (T:=5) (f:=(eU .u8 (w:=8))) h))
 ·rw [c6 hk] at h
  rw [show JM r.kind=69 from by rw [hk];rfl]
  exact ZA hw hm hB h
 ·rw [bw hk] at h
  rw [show JM r.kind=70 from by rw [hk];rfl]
  exact Zy hm hk h
 ·rw [bu hk] at h
  cases h
  rw [show JM r.kind=71 from by rw [hk];rfl]
  exact HA ((WX hw.srt (fun x hx=>hw.ws x.e (List.mem_map.2 ⟨x,hx,rfl⟩)) hm.un.1 hn).frame [Y]) (fun g=>⟨((IG r.ix (fun e:Kp=>Bi r.who e.ls) (Bc r.who r.un) L),g,(none,0)),YK r.ix (fun e:Kp=>Bi r.who e.ls) (Bc r.who r.un) L⟩) (fun g=>rfl) (fun g F w h=>by
   simp only [List.cons_append,List.nil_append] at h ⊢
   exact AS (show Gv _ [cl b 90 [.bool true,.int .i64 room,.int .i64 tick,.int .i64 (((Ap (IG r.ix (fun e:Kp=>Bi r.who e.ls) (Bc r.who r.un) L)):Nat):Int),.map (some m)],Bs m By Cc ((IG r.ix (fun e:Kp=>Bi r.who e.ls) (Bc r.who r.un) L).map En.kp),star (Cb 102 5) (IG r.ix (fun e:Kp=>Bi r.who e.ls) (Bc r.who r.un) L),Y,Aa g.1 g.2 1 3 eI (B9 r.ix (fun e=>Bi r.who e.ls) (L.map En.e)),Aa none 0 1 5 (eU .u8 (w:=8)) []] F from Gu) (BO (e:=1) (T:=5) (f:=(eU .u8 (w:=8))) h))
 ·rw [br hk] at h
  cases h
  rw [show JM r.kind=72 from by rw [hk];rfl]
  exact HA ((SE hw.srt (by omega) hn).frame [Y]) (fun g=>⟨((IG r.ix (fun e:Kp=>Bi r.who e.ls) (CC r.who) L),g,(none,0)),YK r.ix (fun e:Kp=>Bi r.who e.ls) (CC r.who) L⟩) (fun g=>rfl) (fun g F w h=>by
   simp only [List.cons_append,List.nil_append] at h ⊢
   exact AS (show Gv _ [cl b 90 [.bool true,.int .i64 room,.int .i64 tick,.int .i64 (((Ap (IG r.ix (fun e:Kp=>Bi r.who e.ls) (CC r.who) L)):Nat):Int),.map (some m)],Bs m By Cc ((IG r.ix (fun e:Kp=>Bi r.who e.ls) (CC r.who) L).map En.kp),star (Cb 102 5) (IG r.ix (fun e:Kp=>Bi r.who e.ls) (CC r.who) L),Y,Aa g.1 g.2 1 3 eI (B9 r.ix (fun e=>Bi r.who e.ls) (L.map En.e)),Aa none 0 1 5 (eU .u8 (w:=8)) []] F from Gu) (BO (e:=1) (T:=5) (f:=(eU .u8 (w:=8))) h))
end
end Go.Proofs.YtoakfknnaiapiaaGreat
/-
 A call of a bound method's value. (Conditions:none;generic over the program.)
-/
set_option maxRecDepth 20000
namespace Go.SL
open Go.RowKit
section
variable {P : Program} {n : Nat} {L : List (Nat × Value)} {A : List Ao} {d : Option Tmp} {ty : TypeId} {DJ : String} {af : Array Edge} {g : Option (Nat × Bool)}
theorem Rn{f:FuncId}{x:Operand}{xs:Array Operand}{ts:Array TypeId}{args first caps all:List Value}{fi capt:Array Value}{pre F:List Ao}{ρ:Type}{val:ρ ->Value}{post:ρ ->List Ao}(hx:ev L x=some (.func (.func f) fi capt))(hc:DF P f=true)(ha:Xi L xs.toList=some args)
  (hfi:fi=first.toArray) (hca:capt=caps.toArray) (hall:first++args++caps=all) (hg:Gv A pre F:=by repeat (first|with_reducible exact Gv.nil|(with_reducible apply Gv.cons;· (repeat (first|with_reducible exact Ext.here|with_reducible apply Ext.there))))) (hs:Ct P f all pre val post):Ac P n ⟨d,.call ⟨.value x,xs,ts⟩,ty,DJ,af,g⟩ L A (fun v A'=> ∃r,v=val r/\A'=post r++F):=
 Io (fun a w hf _=>by
  have e:=hf.evals ha
  have e':xs.map a.eval=args.toArray:=by apply Array.ext';simp [e]
  subst hfi;subst hca;subst hall
  simp [execOp,resolve,hf.eval hx,Deferred.ofValue,invoke,e',FI hc]) hs hg
end
end Go.SL
namespace Go.Proofs.YtoakfknnaiapiaaGreat
open Go.RowKit Go.SL Go.ShM Go.SvM
set_option maxHeartbeats 1000000
set_option maxRecDepth 20000
set_option linter.all false
theorem cf68:DF Tryz.prog 68=true:=by kernel_rfl
theorem cf69:DF Tryz.prog 69=true:=by kernel_rfl
theorem cf70:DF Tryz.prog 70=true:=by kernel_rfl
theorem cf71:DF Tryz.prog 71=true:=by kernel_rfl
theorem cf72:DF Tryz.prog 72=true:=by kernel_rfl
theorem ud39:Tryz.prog.underlying 39=some (.int .u8):=by kernel_rfl
theorem eg: ∀w,(zeroValue 135).run Tryz.prog w= .ok (.nilFunc) w:=fun w=>by kernel_rfl
def kfB(b:B8):Value:=.int .u8 (b.toNat:Int)
def Rt(b:Nat)(f:Nat):Value:=.func (.func f) #[.pointer (some ⟨b,0,none⟩)] #[]
theorem Lf:KeyT Tryz.prog 39 kfB:=(Ri (P:=Tryz.prog) .u8 ud39).comp (fun w:B8=>(w.toNat:Int)) (fun a b h=>BitVec.eq_of_toNat_eq (by omega))
theorem zvF: ∀w,(zeroValue 135).run Tryz.prog w= .ok .nilFunc w:=eg
def doL:List (B8 × Nat):=EQ 5#8 72 (EQ 4#8 71 (EQ 3#8 70 (EQ 2#8 69 (EQ 1#8 68 []))))
theorem Tr{r:Rq}(hm:MayR r):E8 r.kind doL=some (JM r.kind):=by
 rcases hm.kind with h|h|h|h|h <;>rw [h] <;>decide
theorem Xq{r:Rq}(hm:MayR r):DF Tryz.prog (JM r.kind)=true:=by
 rcases hm.kind with h|h|h|h|h <;>rw [h]
 ·exact cf68
 ·exact cf69
 ·exact cf70
 ·exact cf71
 ·exact cf72
end Go.Proofs.YtoakfknnaiapiaaGreat
namespace Go.Proofs.YtoakfknnaiapiaaGreat
open Go.RowKit Go.SL Go.ShM Go.SvM
set_option maxHeartbeats 1000000
set_option maxRecDepth 20000
set_option linter.all false
theorem YA:DF Tryz.prog 21=true:=by kernel_rfl
theorem VC:DF Tryz.prog 67=true:=by kernel_rfl
theorem fb{b m:Nat}{room tick:Int}{L:List En}{t:Int}{r:Rq}(h:t<tick\/1099511627776<t):Ct Tryz.prog 51 [.pointer (some ⟨b,0,none⟩),.int .i64 t,.agg (CP r).toArray] [cl b 90 [.bool true,.int .i64 room,.int .i64 tick,.int .i64 (((Ap L):Nat):Int),.map (some m)],Bs m By Cc (L.map En.kp),star (Cb 102 5) L] (fun _:Unit=>.tuple #[.agg [.int .u8 0,.slice none 0 0,.slice none 0 0].toArray,.int .i64 191]) (fun _=> [cl b 90 [.bool true,.int .i64 room,.int .i64 tick,.int .i64 (((Ap L):Nat):Int),.map (some m)],Bs m By Cc (L.map En.kp),star (Cb 102 5) L]):=by
 refine AY (n:=59) Tryz.func51 I I I fun F w0 Q hret hnorm hp=>?_
 change WC _ _ _ _ _ _ _ (_::_::_::F)
 refine A4 fun _ K1=>AB (Ay (xs:=CP r) I I) I I I ?_
 rintro _ _ ⟨b3,rfl,rfl⟩
 refine AB (AZ Ce) I I I ?_
 rintro _ _ ⟨b4,rfl,rfl⟩
 refine wA I I<|A3 K1<|A7 fun _ K2=>A4 fun _ K3=>wM I I<|wM I I<|AB (AE YA I (hs:=TB (b:=b) (m:=m) (room:=room) (tick:=tick) (t1:=t) (L:=L) h)) I I I ?_
 rintro _ _ ⟨⟨⟩,rfl,hA⟩
 simp only [ca] at hA
 subst hA
 refine wA I I<|A3 K3<|A4 fun _ K4=>wM I I<|A2 (Bj (i:=191) (j:=0) I I) I ?_
 refine A3 K4<|Ad I<|A4 fun _ K5=>A2 (Ah Bp I) I<|wM I I<|AX (AV (ys:= [.int .u8 0,.slice none 0 0,.slice none 0 0]) I I Ba (h1:=by simp [BD,Value.cells,Value.oneCell',sl]) (hr:=I)) I I ?_
 rintro _ _ rfl
 refine wA I I<|A3 K5<|AK ?_
 exact hret.go () (Cp rfl rfl rfl Bn)

theorem dX{b m:Nat}{room tick:Int}{L:List En}{t:Int}{r:Rq}(h1:tick<=t)(h2:t<=1099511627776)(hu:Ap L<=1099511627776)(hno:(IE r && C2 t r)=false):Ct Tryz.prog 51 [.pointer (some ⟨b,0,none⟩),.int .i64 t,.agg (CP r).toArray] [cl b 90 [.bool true,.int .i64 room,.int .i64 tick,.int .i64 (((Ap L):Nat):Int),.map (some m)],Bs m By Cc (L.map En.kp),star (Cb 102 5) L] (fun _:Unit=>.tuple #[.agg [.int .u8 7,.slice none 0 0,.slice none 0 0].toArray,.int .i64 0]) (fun _=> [cl b 90 [.bool true,.int .i64 room,.int .i64 t,.int .i64 (((Ap (L.filterMap (Dd t))):Nat):Int),.map (some m)],Bs m By Cc ((L.filterMap (Dd t)).map En.kp),star (Cb 102 5) (L.filterMap (Dd t))]):=by
 refine AY (n:=59) Tryz.func51 I I I fun F w0 Q hret hnorm hp=>?_
 change WC _ _ _ _ _ _ _ (_::_::_::F)
 refine A4 fun _ K1=>AB (Ay (xs:=CP r) I I) I I I ?_
 rintro _ _ ⟨b3,rfl,rfl⟩
 refine AB (AZ Ce) I I I ?_
 rintro _ _ ⟨b4,rfl,rfl⟩
 refine wA I I<|A3 K1<|A7 fun _ K2=>A4 fun _ K3=>wM I I<|wM I I<|AB (AE YA I (hs:=Oc (b:=b) (m:=m) (room:=room) (tick:=tick) (t1:=t) (L:=L) h1 h2 hu)) I I I ?_
 rintro _ _ ⟨⟨⟩,rfl,hA⟩
 simp only [ca] at hA
 subst hA
 refine wA I I<|A3 K3<|A4 fun _ K4=>wM I I<|A2 (Bj (i:=0) (j:=0) I I) I ?_
 refine A3 K4<|AM I<|AA<|A5 K2<|A4 fun _ K5=>A2 (A1 I BS) I<|A2 (A1 I Bm) I<|A2 (A6 I BF (v:=.int .i64 r.un) (hi:=EJ r)) I<|wM I I<|A2 (Dm I I) I ?_
 refine wM I I<|Ae 23 I (fun hg6=>?_) (fun hg6=>?_)
 ·try simp only [dz] at hg6
  refine wK I<|wK I<|wK I<|wK I<|wK I<|wK I<|wK I<|wK I<|A2 (AC I I) I<|wA I I<|A3 K5<|A7 fun _ K7=>A4 fun _ K8=>A2 (AI (vs:=CP r) I EG (hl:=by rw [B5];omega) (hi:=CM r)) I ?_
  refine AB (AE VC I (hs:=J3 (r:=r))) I I I ?_
  rintro _ _ ⟨⟨⟩,rfl,hA⟩
  simp only [ca] at hA
  subst hA
  refine A2 (Au I) I<|wM I I<|Ae 36 I (fun hg9=>?_) (fun hg9=>?_)
  ·try simp only [dz] at hg9
   refine wK I<|wK I<|A2 (AC I I) I<|A3 K8<|Ad I<|A4 fun _ K10=>A2 (Ah Bp I) I<|AX (AV (ys:= [.int .u8 7,.slice none 0 0,.slice none 0 0]) I I Ba (h1:=by simp [BD,Value.cells,Value.oneCell',sl]) (hr:=I)) I I ?_
   rintro _ _ rfl
   refine wA I I<|A3 K10<|AK ?_
   exact hret.go () (Cp rfl rfl rfl Bn)
  try simp only [dz] at hg9
  refine wM I I<|A2 (Au I) I<|A2 (A8 I I) I<|A3 K8<|AM I ?_
  (exfalso;revert hno;unfold C2;simp_all;done)
 try simp only [dz] at hg6
 refine A2 (A1 I C3) I<|A2 (A6 I Dw (v:=.int .u8 ((r.kind.toNat:Nat):Int)) (hi:=BU r)) I<|A2 (GZ (b:=2#8) I I) I ?_
 refine wM I I<|Ae 27 I (fun hg11=>?_) (fun hg11=>?_)
 ·try simp only [dz] at hg11
  refine A2 (A1 I C3) I<|A2 (A6 I Dw (v:=.int .u8 ((r.kind.toNat:Nat):Int)) (hi:=BU r)) I<|A2 (GZ (b:=4#8) I I) I ?_
  refine A2 (AC I I) I<|A2 (A8 I I) I<|wA I I<|A3 K5<|A7 fun _ K12=>A4 fun _ K13=>A2 (AI (vs:=CP r) I EG (hl:=by rw [B5];omega) (hi:=CM r)) I ?_
  refine AB (AE VC I (hs:=J3 (r:=r))) I I I ?_
  rintro _ _ ⟨⟨⟩,rfl,hA⟩
  simp only [ca] at hA
  subst hA
  refine A2 (Au I) I<|wM I I<|Ae 36 I (fun hg14=>?_) (fun hg14=>?_)
  ·try simp only [dz] at hg14
   refine wK I<|wK I<|A2 (AC I I) I<|A3 K13<|Ad I<|A4 fun _ K15=>A2 (Ah Bp I) I<|AX (AV (ys:= [.int .u8 7,.slice none 0 0,.slice none 0 0]) I I Ba (h1:=by simp [BD,Value.cells,Value.oneCell',sl]) (hr:=I)) I I ?_
   rintro _ _ rfl
   refine wA I I<|A3 K15<|AK ?_
   exact hret.go () (Cp rfl rfl rfl Bn)
  try simp only [dz] at hg14
  refine wM I I<|A2 (Au I) I<|A2 (A8 I I) I<|A3 K13<|AH I (fun hc1=>?_) (fun hc1=>?_)
  ·try simp only [dz] at hc1
   refine A4 fun _ K16=>A2 (Ah Bp I) I<|AX (AV (ys:= [.int .u8 7,.slice none 0 0,.slice none 0 0]) I I Ba (h1:=by simp [BD,Value.cells,Value.oneCell',sl]) (hr:=I)) I I ?_
   rintro _ _ rfl
   refine wA I I<|A3 K16<|AK ?_
   exact hret.go () (Cp rfl rfl rfl Bn)
  try simp only [dz] at hc1
  (exfalso;revert hno;unfold C2;simp_all;done)
 try simp only [dz] at hg11
 refine wK I<|wK I<|wK I<|A2 (A8 I I) I<|A2 (A8 I I) I<|wA I I<|A3 K5<|A7 fun _ K17=>A4 fun _ K18=>A2 (AI (vs:=CP r) I EG (hl:=by rw [B5];omega) (hi:=CM r)) I ?_
 refine AB (AE VC I (hs:=J3 (r:=r))) I I I ?_
 rintro _ _ ⟨⟨⟩,rfl,hA⟩
 simp only [ca] at hA
 subst hA
 refine A2 (Au I) I<|wM I I<|Ae 36 I (fun hg19=>?_) (fun hg19=>?_)
 ·try simp only [dz] at hg19
  refine wK I<|wK I<|A2 (AC I I) I<|A3 K18<|Ad I<|A4 fun _ K20=>A2 (Ah Bp I) I<|AX (AV (ys:= [.int .u8 7,.slice none 0 0,.slice none 0 0]) I I Ba (h1:=by simp [BD,Value.cells,Value.oneCell',sl]) (hr:=I)) I I ?_
  rintro _ _ rfl
  refine wA I I<|A3 K20<|AK ?_
  exact hret.go () (Cp rfl rfl rfl Bn)
 try simp only [dz] at hg19
 refine wM I I<|A2 (Au I) I<|A2 (A8 I I) I<|A3 K18<|Ad I<|A4 fun _ K21=>A2 (Ah Bp I) I<|AX (AV (ys:= [.int .u8 7,.slice none 0 0,.slice none 0 0]) I I Ba (h1:=by simp [BD,Value.cells,Value.oneCell',sl]) (hr:=I)) I I ?_
 rintro _ _ rfl
 refine wA I I<|A3 K21<|AK ?_
 exact hret.go () (Cp rfl rfl rfl Bn)
end Go.Proofs.YtoakfknnaiapiaaGreat
namespace Go.Proofs.YtoakfknnaiapiaaGreat
open Go.RowKit Go.SL Go.ShM Go.SvM
set_option maxHeartbeats 1000000
set_option maxRecDepth 20000
set_option linter.all false
theorem I5:Tryz.prog.underlying 136=some (.map 39 135):=by kernel_rfl
theorem dW{b m:Nat}{room tick:Int}{L:List En}{t:Int}{r:Rq}{Y:Ao}{rp:Rp}{l2:List Kp}(h1:tick<=t)(h2:t<=1099511627776)(hw:Wf room ⟨tick,L.map En.e⟩)(hyes:(IE r && C2 t r)=true)(hB:Sv [Y] r.b.v 1 (eU .u8 (w:=8)) r.b.l r.b.ao r.b.cap)(hn:L.length<=100000000)(hd:PQ room (BW t (L.map En.e)) r=(rp,l2)):Ct Tryz.prog 51 [.pointer (some ⟨b,0,none⟩),.int .i64 t,.agg (CP r).toArray] [cl b 90 [.bool true,.int .i64 room,.int .i64 tick,.int .i64 (((Ap L):Nat):Int),.map (some m)],Bs m By Cc (L.map En.kp),star (Cb 102 5) L,Y] (fun g: {g:List En × (Option Nat × Nat) × (Option Nat × Nat) // g.1.map En.e=l2} =>.tuple #[.agg [.int .u8 rp.kind,sl g.1.2.1.1 rp.ns.length g.1.2.1.2,sl g.1.2.2.1 rp.bs.length g.1.2.2.2].toArray,.int .i64 0]) (fun g=> [cl b 90 [.bool true,.int .i64 room,.int .i64 t,.int .i64 (((Ap g.1.1):Nat):Int),.map (some m)],Bs m By Cc (g.1.1.map En.kp),star (Cb 102 5) g.1.1,Y,Aa g.1.2.1.1 g.1.2.1.2 1 3 eI rp.ns,Aa g.1.2.2.1 g.1.2.2.2 1 5 (eU .u8 (w:=8)) rp.bs]):=by
 refine AY (n:=59) Tryz.func51 I I I fun F w0 Q hret hnorm hp=>?_
 change WC _ _ _ _ _ _ _ (_::_::_::_::F)
 have hu:Ap L<=1099511627776:=by have q1:(Ap L:Int)<=room:=hw.used;have q2:=hw.rm;omega
 have hw2:Wf room ⟨t,(L.filterMap (Dd t)).map En.e⟩:=by rw [Ju];exact hw.tick h1 h2
 have hmay:=KB (Bool.and_eq_true_iff.1 hyes).1
 have hn2:(L.filterMap (Dd t)).length<=100000000:=Nat.le_trans (List.length_filterMap_le _ _) hn
 rw [<-Ju] at hd
 refine A4 fun _ K1=>AB (Ay (xs:=CP r) I I) I I I ?_
 rintro _ _ ⟨b3,rfl,rfl⟩
 refine AB (AZ Ce) I I I ?_
 rintro _ _ ⟨b4,rfl,rfl⟩
 refine wA I I<|A3 K1<|A7 fun _ K2=>A4 fun _ K3=>wM I I<|wM I I<|AB (AE YA I (hs:=Oc (b:=b) (m:=m) (room:=room) (tick:=tick) (t1:=t) (L:=L) h1 h2 hu)) I I I ?_
 rintro _ _ ⟨⟨⟩,rfl,hA⟩
 simp only [ca] at hA
 subst hA
 refine wA I I<|A3 K3<|A4 fun _ K4=>wM I I<|A2 (Bj (i:=0) (j:=0) I I) I ?_
 refine A3 K4<|AM I<|AA<|A5 K2<|A4 fun _ K5=>A2 (A1 I BS) I<|A2 (A1 I Bm) I<|A2 (A6 I BF (v:=.int .i64 r.un) (hi:=EJ r)) I<|wM I I<|A2 (Dm I I) I ?_
 refine wM I I<|Ae 23 I (fun hg6=>?_) (fun hg6=>?_)
 ·try simp only [dz] at hg6
  refine wK I<|wK I<|wK I<|wK I<|wK I<|wK I<|wK I<|wK I<|A2 (AC I I) I<|wA I I<|A3 K5<|A7 fun _ K7=>A4 fun _ K8=>A2 (AI (vs:=CP r) I EG (hl:=by rw [B5];omega) (hi:=CM r)) I ?_
  refine AB (AE VC I (hs:=J3 (r:=r))) I I I ?_
  rintro _ _ ⟨⟨⟩,rfl,hA⟩
  simp only [ca] at hA
  subst hA
  refine A2 (Au I) I<|wM I I<|Ae 36 I (fun hg9=>?_) (fun hg9=>?_)
  ·try simp only [dz] at hg9
   refine wK I<|wK I<|A2 (AC I I) I<|A3 K8<|Ad I ?_
   (exfalso;revert hyes;unfold C2;simp_all;done)
  try simp only [dz] at hg9
  refine wM I I<|A2 (Au I) I<|A2 (A8 I I) I<|A3 K8<|AM I<|AA<|A5 K7<|A4 fun _ K10=>AB (FY kfB (Rt b)) I I I ?_
  rintro _ _ ⟨m41,rfl,rfl⟩
  refine wM I I<|A2 (Cq I I) I ?_
  refine AX (Ep (vf:=Rt b) (k:=1#8) 68 Lf I I I I5) I I ?_
  rintro _ _ rfl
  refine wM I I<|A2 (Cq I I) I ?_
  refine AX (Ep (vf:=Rt b) (k:=2#8) 69 Lf I I I I5) I I ?_
  rintro _ _ rfl
  refine wM I I<|A2 (Cq I I) I ?_
  refine AX (Ep (vf:=Rt b) (k:=3#8) 70 Lf I I I I5) I I ?_
  rintro _ _ rfl
  refine wM I I<|A2 (Cq I I) I ?_
  refine AX (Ep (vf:=Rt b) (k:=4#8) 71 Lf I I I I5) I I ?_
  rintro _ _ rfl
  refine wM I I<|A2 (Cq I I) I ?_
  refine AX (Ep (vf:=Rt b) (k:=5#8) 72 Lf I I I I5) I I ?_
  rintro _ _ rfl
  refine wM I I<|wA I I<|A3 K10<|A4 fun _ K11=>wM I I<|A2 (A1 I C3) I<|A2 (A6 I Dw (v:=.int .u8 ((r.kind.toNat:Nat):Int)) (hi:=BU r)) I<|A2 (AL (v:=Rt b (JM r.kind)) (EO Lf I I I5 zvF) (by show ((E8 r.kind doL).map (Rt b)).getD .nilFunc=_;rw [Tr hmay];rfl)) I ?_
  refine A2 (AI (vs:=CP r) I EG (hl:=by rw [B5];omega) (hi:=CM r)) I ?_
  refine AB (Rn (first:= [.pointer (some ⟨b,0,none⟩)]) (caps:= []) I (Xq hmay) I I I I (hs:=TP (b:=b) (m:=m) (Y:=Y) hw2 hmay hB hn2 hd)) I I I ?_
  rintro _ _ ⟨⟨⟨L2,⟨na,nc⟩,⟨ba,bc⟩⟩,hL2⟩,rfl,hA⟩
  simp only [ca] at hA
  subst hA
  refine AX (AV (ys:= [.int .u8 rp.kind,sl na rp.ns.length nc,sl ba rp.bs.length bc]) I I Ba (h1:=by simp [BD,Value.cells,Value.oneCell',sl]) (hr:=I)) I I ?_
  rintro _ _ rfl
  refine wA I I<|A3 K11<|AK ?_
  exact hret.go ⟨(L2,(na,nc),(ba,bc)),hL2⟩ (Cp rfl rfl rfl Bn)
 try simp only [dz] at hg6
 refine A2 (A1 I C3) I<|A2 (A6 I Dw (v:=.int .u8 ((r.kind.toNat:Nat):Int)) (hi:=BU r)) I<|A2 (GZ (b:=2#8) I I) I ?_
 refine wM I I<|Ae 27 I (fun hg12=>?_) (fun hg12=>?_)
 ·try simp only [dz] at hg12
  refine A2 (A1 I C3) I<|A2 (A6 I Dw (v:=.int .u8 ((r.kind.toNat:Nat):Int)) (hi:=BU r)) I<|A2 (GZ (b:=4#8) I I) I ?_
  refine A2 (AC I I) I<|A2 (A8 I I) I<|wA I I<|A3 K5<|A7 fun _ K13=>A4 fun _ K14=>A2 (AI (vs:=CP r) I EG (hl:=by rw [B5];omega) (hi:=CM r)) I ?_
  refine AB (AE VC I (hs:=J3 (r:=r))) I I I ?_
  rintro _ _ ⟨⟨⟩,rfl,hA⟩
  simp only [ca] at hA
  subst hA
  refine A2 (Au I) I<|wM I I<|Ae 36 I (fun hg15=>?_) (fun hg15=>?_)
  ·try simp only [dz] at hg15
   refine wK I<|wK I<|A2 (AC I I) I<|A3 K14<|Ad I ?_
   (exfalso;revert hyes;unfold C2;simp_all;done)
  try simp only [dz] at hg15
  refine wM I I<|A2 (Au I) I<|A2 (A8 I I) I<|A3 K14<|AH I (fun hc1=>?_) (fun hc1=>?_)
  ·try simp only [dz] at hc1
   (exfalso;revert hyes;unfold C2;simp_all;done)
  try simp only [dz] at hc1
  refine AA<|A5 K13<|A4 fun _ K16=>AB (FY kfB (Rt b)) I I I ?_
  rintro _ _ ⟨m41,rfl,rfl⟩
  refine wM I I<|A2 (Cq I I) I ?_
  refine AX (Ep (vf:=Rt b) (k:=1#8) 68 Lf I I I I5) I I ?_
  rintro _ _ rfl
  refine wM I I<|A2 (Cq I I) I ?_
  refine AX (Ep (vf:=Rt b) (k:=2#8) 69 Lf I I I I5) I I ?_
  rintro _ _ rfl
  refine wM I I<|A2 (Cq I I) I ?_
  refine AX (Ep (vf:=Rt b) (k:=3#8) 70 Lf I I I I5) I I ?_
  rintro _ _ rfl
  refine wM I I<|A2 (Cq I I) I ?_
  refine AX (Ep (vf:=Rt b) (k:=4#8) 71 Lf I I I I5) I I ?_
  rintro _ _ rfl
  refine wM I I<|A2 (Cq I I) I ?_
  refine AX (Ep (vf:=Rt b) (k:=5#8) 72 Lf I I I I5) I I ?_
  rintro _ _ rfl
  refine wM I I<|wA I I<|A3 K16<|A4 fun _ K17=>wM I I<|A2 (A1 I C3) I<|A2 (A6 I Dw (v:=.int .u8 ((r.kind.toNat:Nat):Int)) (hi:=BU r)) I<|A2 (AL (v:=Rt b (JM r.kind)) (EO Lf I I I5 zvF) (by show ((E8 r.kind doL).map (Rt b)).getD .nilFunc=_;rw [Tr hmay];rfl)) I ?_
  refine A2 (AI (vs:=CP r) I EG (hl:=by rw [B5];omega) (hi:=CM r)) I ?_
  refine AB (Rn (first:= [.pointer (some ⟨b,0,none⟩)]) (caps:= []) I (Xq hmay) I I I I (hs:=TP (b:=b) (m:=m) (Y:=Y) hw2 hmay hB hn2 hd)) I I I ?_
  rintro _ _ ⟨⟨⟨L2,⟨na,nc⟩,⟨ba,bc⟩⟩,hL2⟩,rfl,hA⟩
  simp only [ca] at hA
  subst hA
  refine AX (AV (ys:= [.int .u8 rp.kind,sl na rp.ns.length nc,sl ba rp.bs.length bc]) I I Ba (h1:=by simp [BD,Value.cells,Value.oneCell',sl]) (hr:=I)) I I ?_
  rintro _ _ rfl
  refine wA I I<|A3 K17<|AK ?_
  exact hret.go ⟨(L2,(na,nc),(ba,bc)),hL2⟩ (Cp rfl rfl rfl Bn)
 try simp only [dz] at hg12
 refine wK I<|wK I<|wK I<|A2 (A8 I I) I<|A2 (A8 I I) I<|wA I I<|A3 K5<|A7 fun _ K18=>A4 fun _ K19=>A2 (AI (vs:=CP r) I EG (hl:=by rw [B5];omega) (hi:=CM r)) I ?_
 refine AB (AE VC I (hs:=J3 (r:=r))) I I I ?_
 rintro _ _ ⟨⟨⟩,rfl,hA⟩
 simp only [ca] at hA
 subst hA
 refine A2 (Au I) I<|wM I I<|Ae 36 I (fun hg20=>?_) (fun hg20=>?_)
 ·try simp only [dz] at hg20
  refine wK I<|wK I<|A2 (AC I I) I<|A3 K19<|Ad I ?_
  (exfalso;revert hyes;unfold C2;simp_all;done)
 try simp only [dz] at hg20
 refine wM I I<|A2 (Au I) I<|A2 (A8 I I) I<|A3 K19<|Ad I ?_
 (exfalso;revert hyes;unfold C2;simp_all;done)
end Go.Proofs.YtoakfknnaiapiaaGreat
namespace Go.Proofs.YtoakfknnaiapiaaGreat
open Go.RowKit Go.SL Go.ShM Go.SvM
set_option maxHeartbeats 1000000
set_option maxRecDepth 20000
set_option linter.all false

theorem bq{b m:Nat}{room tick t:Int}{L:List En}{r:Rq}{Y:Ao}{rp:Rp}{er:Int}{s2:Sv1}(hw:Wf room ⟨tick,L.map En.e⟩)(hB:Sv [Y] r.b.v 1 (eU .u8 (w:=8)) r.b.l r.b.ao r.b.cap)(hn:L.length<=100000000)(hc:Eg room ⟨tick,L.map En.e⟩ t r=(rp,er,s2)):
  Ct Tryz.prog 51 [.pointer (some ⟨b,0,none⟩),.int .i64 t,.agg (CP r).toArray] [cl b 90 [.bool true,.int .i64 room,.int .i64 tick,.int .i64 (((Ap L):Nat):Int),.map (some m)],Bs m By Cc (L.map En.kp),star (Cb 102 5) L,Y] (fun g: {g:List En × (Option Nat × Nat) × (Option Nat × Nat) // g.1.map En.e=s2.l} =>.tuple #[.agg [.int .u8 rp.kind,sl g.1.2.1.1 rp.ns.length g.1.2.1.2,sl g.1.2.2.1 rp.bs.length g.1.2.2.2].toArray,.int .i64 er]) (fun g=> [cl b 90 [.bool true,.int .i64 room,.int .i64 s2.tick,.int .i64 (((Ap g.1.1):Nat):Int),.map (some m)],Bs m By Cc (g.1.1.map En.kp),star (Cb 102 5) g.1.1,Y,Aa g.1.2.1.1 g.1.2.1.2 1 3 eI rp.ns,Aa g.1.2.2.1 g.1.2.2.2 1 5 (eU .u8 (w:=8)) rp.bs]):=by
 unfold Eg at hc
 by_cases h:t<tick\/1099511627776<t
 ·rw [if_pos h] at hc
  cases hc
  exact HA ((fb h).frame [Y]) (fun g=>⟨(L,(none,0),(none,0)),rfl⟩) (fun g=>rfl) (fun g F w h=>by
    simp only [List.cons_append,List.nil_append] at h ⊢
    exact AS (show Gv _ [cl b 90 [.bool true,.int .i64 room,.int .i64 tick,.int .i64 (((Ap L):Nat):Int),.map (some m)],Bs m By Cc (L.map En.kp),star (Cb 102 5) L,Y,Aa none 0 1 3 eI [],Aa none 0 1 5 (eU .u8 (w:=8)) []] F from Gu) (BO (e:=1) (T:=5) (f:=(eU .u8 (w:=8))) (BO (e:=1) (T:=3) (f:=eI) h)))
 ·rw [if_neg h] at hc
  simp only at hc
  have h1:tick<=t:=by omega
  have h2:t<=1099511627776:=by omega
  have hu:Ap L<=1099511627776:=by have q1:(Ap L:Int)<=room:=hw.used;have q2:=hw.rm;omega
  by_cases h3:(IE r && C2 t r)=true
  ·rw [if_pos h3] at hc
   cases hc
   exact dW h1 h2 hw h3 hB hn rfl
  ·rw [if_neg h3] at hc
   cases hc
   exact HA ((dX h1 h2 hu (by simpa using h3)).frame [Y]) (fun g=>⟨((L.filterMap (Dd t)),(none,0),(none,0)),Ju _ _⟩) (fun g=>rfl) (fun g F w h=>by
    simp only [List.cons_append,List.nil_append] at h ⊢
    exact AS (show Gv _ [cl b 90 [.bool true,.int .i64 room,.int .i64 t,.int .i64 (((Ap (L.filterMap (Dd t))):Nat):Int),.map (some m)],Bs m By Cc ((L.filterMap (Dd t)).map En.kp),star (Cb 102 5) (L.filterMap (Dd t)),Y,Aa none 0 1 3 eI [],Aa none 0 1 5 (eU .u8 (w:=8)) []] F from Gu) (BO (e:=1) (T:=5) (f:=(eU .u8 (w:=8))) (BO (e:=1) (T:=3) (f:=eI) h)))

theorem Z1{b m:Nat}{room tick:Int}{u:Nat} :Ct Tryz.prog 30 [.pointer (some ⟨b,0,none⟩)] [cl b 90 [.bool true,.int .i64 room,.int .i64 tick,.int .i64 ((u:Nat):Int),.map (some m)]] (fun _:Unit=>.int .i64 ((u:Nat):Int)) (fun _=> [cl b 90 [.bool true,.int .i64 room,.int .i64 tick,.int .i64 ((u:Nat):Int),.map (some m)]]):=by
 refine AY (n:=10) Tryz.func30 I I I fun F w0 Q hret hnorm hp=>?_
 change WC _ _ _ _ _ _ _ (_::F)
 refine A4 fun _ K1=>wA I I<|A3 K1<|A7 fun _ K2=>A4 fun _ K3=>wM I I<|AB (AE RQ I (hs:=Fz)) I I I ?_
 rintro _ _ ⟨⟨⟩,rfl,hA⟩
 simp only [ca] at hA
 subst hA
 refine A2 (Au I) I<|A3 K3<|AM I<|AA<|A5 K2<|A4 fun _ K4=>wM I I<|A2 (A9 I) I<|A2 (A1 I Df) I<|A2 (A6 I BF) I ?_
 refine wA I I<|A3 K4<|AK ?_
 exact hret.go () (BR rfl rfl)
end Go.Proofs.YtoakfknnaiapiaaGreat
/-
 What is put behind a message,read as a number;a digest's bytes,one by one;a list copied place by place. (Conditions:none;no program in sight.)
-/
set_option maxRecDepth 20000
namespace Go.ShM
open Go.SL Go.RowKit
end Go.ShM
/-
 Plain words for what the statements' helpers do:marks,lists laid over,a number brought into a range,equal lists. (Conditions:none;no program in sight.)
-/
set_option maxRecDepth 20000
namespace Go.ShM
open Go.SL Go.RowKit
def Ge(k i:Nat):B8:=BitVec.ofNat 8 (151*k+7*i+1)
def D9{α:Type}(g:Nat ->α)(n m:Nat):List α:=(List.range m).map fun i=>g (n+i)
theorem BL{α:Type}(g:Nat ->α)(n m:Nat):(D9 g n m).length=m:=by simp [D9]
theorem QZ{α:Type}(g:Nat ->α)(n m:Nat):D9 g n m++ [g (n+m)]=D9 g n (m+1):=by simp [D9,List.range_succ]
theorem G8{α:Type}{g:Nat ->α}{n m i:Nat}(h:i<m):(D9 g n m)[i]? =some (g (n+i)):=by simp [D9,h]
theorem ZU{α:Type}(g:Nat ->α)(m k:Nat):D9 g 0 m++D9 g m k=D9 g 0 (m+k):=by
 apply List.ext_getElem?
 intro i
 rw [List.getElem?_append,BL]
 by_cases h:i<m
 ·rw [if_pos h,G8 h,G8 (by omega)]
 ·rw [if_neg h]
  by_cases h2:i<m+k
  ·rw [G8 (by omega),G8 h2];congr 2;omega
  ·rw [List.getElem?_eq_none (by rw [BL];omega),List.getElem?_eq_none (by rw [BL];omega)]
def DC(l:List B8):List B8:=l++D9 (Ge 0) l.length 70
theorem Hg(l:List B8):(DC l).length=l.length+70:=by simp [DC,BL]
def Nm{α:Type}(g:Nat ->α)(l:List α)(i:Nat):List α:=(List.range i).map g++l.drop i
theorem O0{α:Type}(g:Nat ->α)(l:List α):Nm g l 0=l:=by simp [Nm]
theorem J0{α:Type}(g:Nat ->α){l:List α}{i:Nat}(h:i<=l.length):(Nm g l i).length=l.length:=by simp [Nm];omega
theorem Iz{α:Type}(g:Nat ->α){l:List α}{i:Nat}(h:i<l.length):(Nm g l i).set i (g i)=Nm g l (i+1):=by
 unfold Nm
 rw [List.set_append_right _ _ (by simp),List.length_map,List.length_range,Nat.sub_self,List.drop_eq_getElem_cons h,List.set_cons_zero,List.range_succ,List.map_append,List.append_assoc]
 rfl
theorem J1{α:Type}(g:Nat ->α)(l:List α):Nm g l l.length=D9 g 0 l.length:=by simp [Nm,D9]
def QP(n:Nat):List B8:=D9 (fun i=>Ge 7 (i+3)) 0 n
theorem Uo(n:Nat):(QP n).length=n:=BL _ _ _
theorem Ir{α:Type}{l l':List α}{i:Nat}{z:α}(h:l.take i=l'.take i)(hi:i<l.length)(hl:l.length=l'.length)(he:l.getD i z=l'.getD i z):l.take (i+1)=l'.take (i+1):=by
 rw [List.getD_eq_getElem?_getD,List.getD_eq_getElem?_getD,List.getElem?_eq_getElem hi,List.getElem?_eq_getElem (by omega)] at he
 rw [List.take_succ_eq_append_getElem hi,List.take_succ_eq_append_getElem (by omega),h]
 simp only [Option.getD_some] at he
 rw [he]
theorem UF{α:Type}{l:List α}{i:Nat}(z:α)(hi:i<l.length):l.take i++ [l.getD i z]=l.take (i+1):=by
 rw [List.getD_eq_getElem?_getD,List.getElem?_eq_getElem hi,List.take_succ_eq_append_getElem hi];rfl
theorem UG{α:Type}{l:List α}{i:Nat}(hi:i<l.length):(l.take i).length+1=(l.take (i+1)).length:=by simp;omega
theorem F2{α:Type}{l l':List α}(h:l.take l.length=l'.take l.length)(hl:l.length=l'.length):l=l':=by
 rw [List.take_length] at h
 rw [hl,List.take_length] at h
 exact h
theorem bF{p:Prop}[Decidable p](h: ¬p):Value.bool false=Value.bool (decide p):=by rw [decide_eq_false h]
theorem bT{p:Prop}[Decidable p](h:p):Value.bool true=Value.bool (decide p):=by rw [decide_eq_true h]
theorem G7{α:Type}{l l':List α}(h:l.length≠l'.length): ¬l=l':=fun e=>h (by rw [e])
theorem I7{α:Type}{l l':List α}{i:Nat}{z:α}(h:l.getD i z≠l'.getD i z): ¬l=l':=fun e=>h (by rw [e])
def Bo(x:Int)(n:Nat):Nat:=(x % (n:Int)).toNat
theorem DO{x:Int}{n:Nat}(h:1<=n):Bo x n<n:=by
 unfold Bo
 have h1:=Int.emod_nonneg x (show (n:Int)≠0 by omega)
 have h2:=Int.emod_lt_of_pos x (show (0:Int)<n by omega)
 omega
theorem QM{x:Int}{n:Nat}(hn:1<=n)(h:x.tmod n<0):x.tmod n+n=((Bo x n:Nat):Int):=by
 have h1:=Int.emod_nonneg x (show (n:Int)≠0 by omega)
 unfold Bo
 rw [Int.tmod_eq_emod] at h ⊢
 split at h
 ·omega
 ·rename_i hh;rw [if_neg hh];omega
theorem QL{x:Int}{n:Nat}(hn:1<=n)(h: ¬x.tmod n<0):x.tmod n=((Bo x n:Nat):Int):=by
 have h1:=Int.emod_nonneg x (show (n:Int)≠0 by omega)
 have h2:=Int.emod_lt_of_pos x (show (0:Int)<n by omega)
 unfold Bo
 rw [Int.tmod_eq_emod] at h ⊢
 split at h
 ·rename_i hh;rw [if_pos hh];omega
 ·omega
theorem Vp(x:Int){n:Nat}(hn:1<=n): -(n:Int)<x.tmod n/\x.tmod n<n:=by
 have h1:=Int.emod_nonneg x (show (n:Int)≠0 by omega)
 have h2:=Int.emod_lt_of_pos x (show (0:Int)<n by omega)
 rw [Int.tmod_eq_emod]
 split
 ·omega
 ·rename_i hh
  have:x % (n:Int)≠0:=fun e=>hh (.inr (Int.dvd_of_emod_eq_zero e))
  omega
end Go.ShM
/-
 Tags and parts in plain words:a tag's text,what parts it has,the bytes that are digested. (Conditions:none;no program in sight.)
-/
set_option maxRecDepth 20000
namespace Go.ShM
open Go.SL Go.RowKit
inductive Bd|any|most (n:Nat) (b:Nat)|just (n:Nat) (b:Nat)
def Bd.ok:Bd ->Nat ->Bool
 | .any,_=>true
 | .most n _,m=>decide (m<=n)
 | .just n _,m=>decide (m=n)
def bnd(t:B8):List Bd:=if t=1#8 then [.most 64 0,.just 6 0,.most 16777216 0] else if t=2#8 then [.just 16 0] else if t=5#8 then [.just 32 0] else if t=6#8 then [.just 32 0,.just 32 0] else if t=7#8 then [.just 4 0] else if t=9#8 then [.just 16 0,.just 4 0] else [.any]
def Bd.kd:Bd ->Bd
 | .any=>.any
 | .most n _=>.most n 0
 | .just n _=>.just n 0
end Go.ShM
namespace Go.ShM
open Go.SL
end Go.ShM
/-
 Tagged bytes tell the tag and the parts. (Conditions:lengths below two to the sixty-fourth;no program in sight.)
-/
set_option maxRecDepth 20000
namespace Go.ShM
open Go.SL
end Go.ShM
namespace Go.ShM
open Go.SL
end Go.ShM
/-
 copy into a part of one's own slice,elements of any size. (Conditions:none;generic over the program.)
-/
namespace Go.SL
open Go.RowKit
end Go.SL
/-
 Trees of digests in plain words:how wide,the nodes,the root. (Conditions:none;no program in sight.)
-/
set_option maxRecDepth 20000
namespace Go.ShM
open Go.SL Go.RowKit
def Dg:Type:= { l:List B8 // l.length=32 }
instance:DecidableEq Dg:=fun a b=>decidable_of_iff (a.1=b.1) ⟨Subtype.ext,fun h=>by rw [h]⟩
end Go.ShM
namespace Go.ShM
open Go.SL Go.RowKit
end Go.ShM
/-
 Servers in the order of their digests,in plain words:the comparison,the sorted list,places counted,a server more. (Conditions:none;no program in sight.)
-/
set_option maxRecDepth 20000
namespace Go.ShM
open Go.SL Go.RowKit Go.Sort Go.Shelf Go.Proofs Go.Lib
def Vb:List B8 ->Nat
 | []=>0
 |x::l=>x.toNat*256 ^ l.length+Vb l
theorem Yg: ∀l:List B8,Vb l<256 ^ l.length
 | []=>by simp [Vb]
 |x::l=>by
  have:=Yg l
  have hx:x.toNat<256:=x.isLt
  have h2:(x.toNat+1)*256 ^ l.length<=256*256 ^ l.length:=Nat.mul_le_mul_right _ hx
  rw [List.length_cons,Nat.pow_succ,Vb,Nat.mul_comm (256 ^ l.length)]
  rw [Nat.add_mul,Nat.one_mul] at h2
  omega
def Ie:List B8 ->List B8 ->Int
 |x::a,y::b=>if x=y then Ie a b else (x.toNat:Int) -y.toNat
 |_,_=>0
theorem Ts: ∀(a b:List B8),a.length=b.length ->(Ie a b<0<->Vb a<Vb b)/\(Ie a b=0<->Vb a=Vb b)/\(Vb a=Vb b<->a=b)
 | [],[],_=>by simp [Ie,Vb]
 | [],_::_,h=>by simp at h
 |_::_,[],h=>by simp at h
 |x::a,y::b,h=>by
  have hl:a.length=b.length:=by simpa using h
  obtain⟨i1,i2,i3⟩:=Ts a b hl
  simp only [Ie,Vb,hl]
  by_cases hxy:x=y
  ·subst hxy
   simp only [if_true]
   refine⟨by omega,by omega,?_⟩
   rw [Nat.add_left_cancel_iff,i3];simp
  ·rw [if_neg hxy]
   have hne:x.toNat≠y.toNat:=fun e=>hxy (BitVec.eq_of_toNat_eq e)
   have ha:=Yg a
   have hb:=Yg b
   rw [hl] at ha
   rcases(show x.toNat+1<=y.toNat\/y.toNat+1<=x.toNat from by omega) with q|q
   ·have:=Nat.mul_le_mul_right (256 ^ b.length) q
    rw [Nat.add_mul,Nat.one_mul] at this
    refine⟨by omega,by omega,⟨fun e=>by omega,fun e=>?_⟩⟩
    exact absurd (List.cons.inj e).1 hxy
   ·have:=Nat.mul_le_mul_right (256 ^ b.length) q
    rw [Nat.add_mul,Nat.one_mul] at this
    refine⟨by omega,by omega,⟨fun e=>by omega,fun e=>?_⟩⟩
    exact absurd (List.cons.inj e).1 hxy
theorem NI{a b:List B8}{k:Nat}{x y:B8}(hx:a[k]? =some x)(hy:b[k]? =some y):Ie (a.drop k) (b.drop k)=if x=y then Ie (a.drop (k+1)) (b.drop (k+1)) else (x.toNat:Int) -y.toNat:=by
 obtain⟨h1,e1⟩:=List.getElem?_eq_some_iff.1 hx
 obtain⟨h2,e2⟩:=List.getElem?_eq_some_iff.1 hy
 rw [List.drop_eq_getElem_cons h1,List.drop_eq_getElem_cons h2,e1,e2]
 rfl
theorem V6{a b:List B8}{k:Nat}(h:a.length<=k):Ie (a.drop k) (b.drop k)=0:=by
 rw [List.drop_eq_nil_of_le h];rfl
def ltR(d:Nat ->Dg)(a b:Nat):Prop:=Vb (d a).1<Vb (d b).1\/(Vb (d a).1=Vb (d b).1/\a<b)
instance (d:Nat ->Dg) (a b:Nat):Decidable (ltR d a b):=inferInstanceAs (Decidable (_\/_))
end Go.ShM
/-
 Two lists of bytes held against one another by the library's own entry. (Conditions:none;generic over the program.)
-/
set_option maxRecDepth 20000
namespace Go.ShM
open Go.SL Go.RowKit
def bz(l:List B8):List Int:=l.map fun x=>(x.toNat:Int)
def ba(l:List B8):ByteArray:=⟨(Lib.bytesOf (bz l)).toArray⟩
theorem KY(l:List B8):(ba l).size=l.length:=by
 simp [ba,bz,Lib.bytesOf,ByteArray.size]
theorem JS{l:List B8}{i:Nat}{x:B8}(h:l[i]? =some x):(ba l)[i]! =x.toNat.toUInt8:=by
 obtain⟨h1,e1⟩:=List.getElem?_eq_some_iff.1 h
 have hs:i<(ba l).size:=by rw [KY];exact h1
 rw [getElem!_pos (ba l) i hs]
 subst e1
 simp [ba,bz,Lib.bytesOf,ByteArray.getElem_eq_getElem_data]
theorem bP{x y:B8} :(x.toNat.toUInt8<y.toNat.toUInt8)<->x.toNat<y.toNat:=by
 have hx:x.toNat<256:=x.isLt
 have hy:y.toNat<256:=y.isLt
 rw [UInt8.lt_iff_toNat_lt]
 simp [Nat.mod_eq_of_lt hx,Nat.mod_eq_of_lt hy]
theorem Vo{x y:B8} :(x.toNat.toUInt8=y.toNat.toUInt8)<->x=y:=by
 have hx:x.toNat<256:=x.isLt
 have hy:y.toNat<256:=y.isLt
 constructor
 ·intro h
  have:=congrArg UInt8.toNat h
  simp [Nat.mod_eq_of_lt hx,Nat.mod_eq_of_lt hy] at this
  exact BitVec.eq_of_toNat_eq this
 ·intro h;rw [h]
theorem VG{l:List B8}{i:Nat}(h:i<l.length): ∃x,l[i]? =some x:=⟨_,List.getElem?_eq_getElem h⟩
theorem NH{l l':List B8}(he:l.length=l'.length): ∀k,k<=l.length ->(∀j,j<k -> ∀x y,l[j]? =some x ->l'[j]? =some y ->x=y) ->Ie (l.drop k) (l'.drop k)=Ie l l'
 |0,_,_=>rfl
 |k+1,hk,h=>by
  have ih:=NH he k (by omega) fun j hj=>h j (by omega)
  obtain⟨x,hx⟩:=VG (l:=l) (i:=k) (by omega)
  obtain⟨y,hy⟩:=VG (l:=l') (i:=k) (by omega)
  rw [NI hx hy,if_pos (h k (by omega) x y hx hy)] at ih
  exact ih
theorem dc{l l':List B8}(he:l.length=l'.length):Extern.BytealgCompare.cmp (ba l) (ba l')<0<->Ie l l'<0:=by
 unfold Extern.BytealgCompare.cmp
 rw [KY,KY,<-he,Nat.min_self]
 split
 ·rename_i i hi
  obtain⟨h1,h2,h3⟩:=List.find?_range_eq_some.1 hi
  have hil:i<l.length:=List.mem_range.1 h2
  have hp:=NH he i (by omega) fun j hj x y hx hy=>by
   have:=h3 j hj
   rw [JS hx,JS hy] at this
   simp only [Bool.not_eq_true',bne_eq_false_iff_eq] at this
   exact Vo.1 this
  obtain⟨x,hx⟩:=VG (l:=l) (i:=i) hil
  obtain⟨y,hy⟩:=VG (l:=l') (i:=i) (by omega)
  rw [JS hx,JS hy] at h1
  have hne: ¬x=y:=fun e=>by subst e;simp at h1
  rw [NI hx hy,if_neg hne] at hp
  rw [JS hx,JS hy,<-hp]
  have hn:x.toNat≠y.toNat:=fun e=>hne (BitVec.eq_of_toNat_eq e)
  by_cases hlt:x.toNat<y.toNat
  ·rw [if_pos (bP.2 hlt)];omega
  ·rw [if_neg (fun e=>hlt (bP.1 e))];omega
 ·rename_i hn
  have hp:=NH he l.length (Nat.le_refl _) fun j hj x y hx hy=>by
   have:=List.find?_range_eq_none.1 hn j hj
   rw [JS hx,JS hy] at this
   simp only [Bool.not_eq_true',bne_eq_false_iff_eq] at this
   exact Vo.1 this
  rw [V6 (Nat.le_refl _)] at hp
  rw [<-hp,if_neg (Nat.lt_irrefl _),if_neg (Nat.lt_irrefl _)]
theorem IP{P:Program}{B:List Ao}{v:Value}{l:List B8}{ao:Option Addr}{cap:Nat}{w:World}(hS:Sv B v 1 (eU .u8 (w:=8)) l ao cap)(hs:sat w B):(Extern.Bytes.bytesOf v).run P w= .ok (ba l) w:=by
 rw [hS.val]
 by_cases hl:l= []
 ·subst hl
  cases ao with
  |none=>rfl
  |some a=>rfl
 ·obtain⟨b,o,hao⟩:=hS.adr hl
  have hc:=hS.cell w hs
  rw [hao] at hc ⊢
  have hr:=Lib.run_loadBytesX (P:=P) w (bz l) ⟨b,o,none⟩ .empty (fun j x hj=>by
   unfold bz at hj
   rw [List.getElem?_map] at hj
   cases hlj:l[j]? with
   |none=>rw [hlj] at hj;cases hj
   |some y=>
    rw [hlj] at hj
    have hx:((y.toNat:Nat):Int)=x:=by simpa using hj
    have h1:=hc j y hlj 0 (.int .u8 ((y.toNat:Nat):Int)) rfl
    rw [Nat.mul_one,Nat.add_zero] at h1
    have e:(⟨b,o,none⟩:Addr).add j=⟨b,o+j,none⟩:=by unfold Addr.add;split <;>simp_all
    rw [e,<-hx]
    exact h1)
  have hlen:(bz l).length=l.length:=by simp [bz]
  rw [hlen] at hr
  show (Extern.Bytes.loadBytes ⟨b,o,none⟩ l.length .empty).run P w=_
  rw [hr]
  congr 1
  apply ByteArray.ext
  show (#[]:Array UInt8)++(Lib.bytesOf (bz l)).toArray=(Lib.bytesOf (bz l)).toArray
  simp
section
variable {P : Program} {n : Nat} {L : List (Nat × Value)} {A : List Ao} {d : Option Tmp} {ty : TypeId} {pos' : String} {af : Array Edge} {g : Option (Nat × Bool)}
theorem bN{f:FuncId}{xs:Array Operand}{ts:Array TypeId}{v v':Value}{l l':List B8}{ao ao':Option Addr}{cap cap':Nat}{B B':List Ao}(hcf: ∀(args:Array Value) (w:World),(callFunc f args).run P w=((Extern.BytealgCompare.compare args).run P w).andThen fun v w'=>.ok (.value v) w')(ha:Xi L xs.toList=some [v,v'])
  (hS:Sv B v 1 (eU .u8 (w:=8)) l ao cap:=by assumption) (hS':Sv B' v' 1 (eU .u8 (w:=8)) l' ao' cap':=by assumption) (hB:Sub A B:=by repeat (first|with_reducible exact Sub.refl|with_reducible exact Sub.nil|with_reducible refine Sub.cons (by repeat (first|with_reducible exact Ext.here|with_reducible apply Ext.there)) ?_|with_reducible refine Sub.tail ?_)) (hB':Sub A B':=by repeat (first|with_reducible exact Sub.refl|with_reducible exact Sub.nil|with_reducible refine Sub.cons (by repeat (first|with_reducible exact Ext.here|with_reducible apply Ext.there)) ?_|with_reducible refine Sub.tail ?_)):
  Ac P n ⟨d,.call ⟨.value (.func f),xs,ts⟩,ty,pos',af,g⟩ L A (fun r A'=>r= .int .i64 (Extern.BytealgCompare.cmp (ba l) (ba l'))/\A'=A):=
 Ew fun a w hfr hs=>by
  refine⟨_,w,A,.inl ?_,⟨rfl,rfl⟩,hs,.refl _⟩
  have h1:=IP (P:=P) hS (hB.sat hs)
  have h2:=IP (P:=P) hS' (hB'.sat hs)
  have h3:(Extern.BytealgCompare.compare #[v,v']).run P w= .ok (.int .i64 (Extern.BytealgCompare.cmp (ba l) (ba l'))) w:=by
   show ((do pure (goInt (Extern.BytealgCompare.cmp (<-Extern.Bytes.bytesOf v) (<-Extern.Bytes.bytesOf v')))):Sem Value).run P w=_
   simp [h1,h2,goInt]
  have e:=hfr.evals ha
  have e':xs.map a.eval= #[v,v']:=by apply Array.ext';simp [e]
  simp [execOp,resolve,Act.eval,Deferred.ofValue,invoke,e',hcf,h3]
end
end Go.ShM
/-
 Keys in order:the comparison;keys sorted. (Conditions:none;no program in sight.)
-/
set_option maxRecDepth 20000
namespace Go.SvM
open Go.SL Go.ShM Go.RowKit Go.Sort Go.Shelf Go.Proofs Go.Lib
theorem Yf: ∀l,Vx l=Vb l
 | []=>rfl
 |x::l=>by unfold Vx Vb;rw [Yf l]
theorem de{l l':List B8}(he:l.length=l'.length):Extern.BytealgCompare.cmp (ba l) (ba l')=0<->l=l':=by
 constructor
 ·intro h
  unfold Extern.BytealgCompare.cmp at h
  rw [KY,KY,<-he,Nat.min_self] at h
  split at h
  ·split at h <;>omega
  ·rename_i hn
   apply List.ext_getElem?
   intro j
   by_cases hj:j<l.length
   ·obtain⟨x,hx⟩:=VG (l:=l) (i:=j) hj
    obtain⟨y,hy⟩:=VG (l:=l') (i:=j) (by omega)
    have:=List.find?_range_eq_none.1 hn j hj
    rw [JS hx,JS hy] at this
    simp only [Bool.not_eq_true',bne_eq_false_iff_eq] at this
    rw [hx,hy,Vo.1 this]
   ·rw [List.getElem?_eq_none (by omega),List.getElem?_eq_none (by omega)]
 ·rintro rfl
  unfold Extern.BytealgCompare.cmp
  rw [Nat.min_self]
  split
  ·rename_i i hi
   obtain⟨h1,_,_⟩:=List.find?_range_eq_some.1 hi
   simp at h1
  ·simp
def c9(a b:Ky):Int:=if Extern.BytealgCompare.cmp (ba a.1.l) (ba b.1.l)≠0 then Extern.BytealgCompare.cmp (ba a.1.l) (ba b.1.l) else a.2 -b.2
theorem Sm(a b:Ky):c9 a b<0<->Eh a b:=by
 have hl:a.1.l.length=b.1.l.length:=by rw [a.1.h,b.1.h]
 obtain⟨h1,h2,h3⟩:=Ts a.1.l b.1.l hl
 have h4:=de hl
 have h5:=dc hl
 unfold c9 Eh
 rw [Yf,Yf]
 by_cases h:Extern.BytealgCompare.cmp (ba a.1.l) (ba b.1.l)=0
 ·rw [if_neg (fun q=>q h)]
  have:=h3.2 (h4.1 h)
  omega
 ·rw [if_pos h,h5,h1]
  have: ¬Vb a.1.l=Vb b.1.l:=fun q=>h (h4.2 (h3.1 q))
  omega
abbrev K8:= {k:Ky // 0<=k.2/\k.2<255}
def aS(a b:K8):Int:=c9 a.1 b.1
theorem NK(a b:K8):(ltOf aS) a b=decide (Eh a.1 b.1):=decide_eq_decide.2 (Sm a.1 b.1)
theorem aQ:SWO (ltOf aS):=⟨fun x=>by rw [NK];simpa using TX x.1,fun x y z h1 h2=>by
  rw [NK,decide_eq_true_eq] at *;exact HG h1 h2,fun x y z h1 h2=>by
  rw [NK,decide_eq_false_iff_not] at*
  intro h
  by_cases q:Eh y.1 x.1
  ·exact h2 (HG q h)
  ·have:=KL h1 q
   rw [this] at h
   exact h2 h⟩
theorem aP(x y:K8)(h1:(ltOf aS) x y=false)(h2:(ltOf aS) y x=false):x=y:=by
 rw [NK,decide_eq_false_iff_not] at*
 exact Subtype.ext (KL h1 h2)
theorem f9{l l':List K8}(p:l.Perm l')(h:l'.Pairwise fun a b=>Eh a.1 b.1):(l.mergeSort fun x y=> !(ltOf aS) y x)=l':=by
 have e:(fun x y:K8=> !(ltOf aS) y x)=fun x y=>decide (¬Eh y.1 x.1):=by funext x y;rw [NK];simp
 rw [e]
 have h1:(l.mergeSort fun x y:K8=>decide (¬Eh y.1 x.1)).Pairwise (fun x y=>decide (¬Eh y.1 x.1)=true):=List.pairwise_mergeSort (fun a b c=>by
  simp only [decide_eq_true_eq]
  intro q1 q2 q3
  by_cases z:Eh a.1 b.1
  ·exact q2 (HG q3 z)
  ·exact q2 (KL z q1 ▸ q3)) (fun a b=>by
  simp only [Bool.or_eq_true,decide_eq_true_eq]
  by_cases z:Eh b.1 a.1
  ·exact .inr (XO z)
  ·exact .inl z) l
 have h2:l'.Pairwise (fun x y=>decide (¬Eh y.1 x.1)=true):=h.imp fun q=>by simpa using XO q
 exact((List.mergeSort_perm _ _).trans p).eq_of_pairwise (fun a b _ _ q1 q2=>by
  simp only [decide_eq_true_eq] at q1 q2
  exact Subtype.ext (KL q2 q1)) h1 h2
end Go.SvM
/-
 A yield that always goes on;the cells of a key. (Conditions:none;generic over the program.)
-/
set_option maxRecDepth 20000
namespace Go.SvM
open Go.SL Go.ShM Go.RowKit
theorem Ty{P:Program}{l:Nat}{args:List Value}{pre:List Ao}{X:Ao}{f:Unit ->List Ao}(h:Yd P l args pre (fun b:Bool=>.bool b) (fun b=> [bif b then X else M7 (fun _:Unit=>False) f])):Yd P l args pre (fun _:Unit=>.bool true) (fun _=> [X]):=fun F w hs=>by
 obtain⟨g,tm,as',bd,h1,h2⟩:=h F w hs
 refine⟨g,tm,as',bd,h1,fun r=>RoundIn.mono (h2 r) ?_⟩
 rintro e w' ⟨q,rfl,hs',hk⟩
 cases q with
 |true=>exact⟨(),rfl,hs',hk⟩
 |false=>
  obtain⟨_,q,_⟩:=FD.1 hs'
  exact q.elim
theorem OF(l:List B8):l.flatMap (eU .u8 (w:=8))=l.map fun b=>Value.int .u8 (b.toNat:Int):=by
 induction l with
 |nil=>rfl
 |cons x l ih=>rw [List.flatMap_cons,ih];rfl
theorem Yh{b:Nat}{T:TypeId}{k:Ky} :Sv [cl b T (Dt k)] (sl (some b) 16 16) 1 (eU .u8 (w:=8)) k.1.l (some ⟨b,0,none⟩) 16:=by
 refine⟨by rw [k.1.h];rfl,fun _=>⟨b,0,rfl⟩,fun x _=>rfl,Nat.le_of_eq k.1.h,fun w hs i x hx j u hu=>?_⟩
 have hi:=(List.getElem?_eq_some_iff.1 hx).1
 cases j with
 |succ j=>cases hu
 |zero=>
  have hb:=Cn hs
  refine GW (i:=0+(i*1+0)) hb ?_
  rw [Nat.zero_add,Nat.mul_one,Nat.add_zero]
  unfold Dt
  rw [OF,List.getElem?_toArray,List.getElem?_append_left (by simpa using hi),List.getElem?_map,hx]
  exact hu
theorem yield_perm{α:Type}{pre post D:List α}{x:α} :(D++(pre++x::post)).Perm ((D++ [x])++(pre++post)):=by
 rw [List.append_assoc,List.singleton_append]
 exact List.Perm.append_left D List.perm_middle
theorem N4{κ β:Type}[DecidableEq κ]{D:List (κ × β)}{k:κ}{v:β} :C5 D++ [k]=C5 (D++ [(k,v)]):=by
 unfold C5;rw [List.map_append];rfl
theorem to8: ∀ {l:List Ky},(∀k∈l,0<=k.2/\k.2<255) -> ∃l8:List K8,l8.map Subtype.val=l
 | [],_=>⟨[],rfl⟩
 |x::r,h=>by
  obtain⟨l8,e⟩:=to8 (l:=r) fun k hk=>h k (List.mem_cons_of_mem _ hk)
  exact⟨⟨x,h x (by simp)⟩::l8,by rw [List.map_cons,e]⟩
def of8(k:Ky):Option K8:=if h:0<=k.2/\k.2<255 then some ⟨k,h⟩ else none
theorem Ow: ∀a:List K8,(a.map Subtype.val).filterMap of8=a
 | []=>rfl
 |x::r=>by
  rw [List.map_cons,List.filterMap_cons_some (b:=x) (by unfold of8;rw [dif_pos x.2]),Ow r]
theorem fH{a b:List K8}(p:(a.map Subtype.val).Perm (b.map Subtype.val)):a.Perm b:=by
 have:=p.filterMap of8
 rw [Ow,Ow] at this
 exact this
theorem fJ{l:List K8}(h:(l.map Subtype.val).Pairwise Eh):l.Pairwise fun a b=>Eh a.1 b.1:=List.pairwise_map.1 h
theorem SA{l l':List Bv}(p:l.Perm l')(h:l'.Pairwise fun a b=>a.toNat<b.toNat):(l.mergeSort fun x y=>decide (x.toNat<=y.toNat))=l':=by
 have h1:(l.mergeSort fun x y=>decide (x.toNat<=y.toNat)).Pairwise (fun x y=>decide (x.toNat<=y.toNat)=true):=List.pairwise_mergeSort (fun a b c=>by simp;omega) (fun a b=>by simp;omega) l
 have h2:l'.Pairwise (fun x y=>decide (x.toNat<=y.toNat)=true):=h.imp fun q=>by simp;omega
 exact((List.mergeSort_perm _ _).trans p).eq_of_pairwise (fun a b _ _ q1 q2=>by simp at q1 q2;exact BitVec.eq_of_toNat_eq (by omega)) h1 h2
end Go.SvM
namespace Go.Proofs.YtoakfknnaiapiaaGreat
open Go.RowKit Go.SL Go.ShM Go.SvM Go.Proofs Go.Shelf Go.Sort Go.Lib
set_option maxHeartbeats 1000000
set_option maxRecDepth 20000
set_option linter.all false
theorem e6:DF Tryz.prog 40=true:=by kernel_rfl
theorem cf63:DF Tryz.prog 63=true:=by kernel_rfl
theorem UD:Tryz.prog.underlying 41=some (.array 16 5):=by kernel_rfl
theorem cmpE: ∀(args:Array Value) (w:World),(callFunc 83 args).run Tryz.prog w=((Extern.BytealgCompare.compare args).run Tryz.prog w).andThen fun v w'=>.ok (.value v) w':=fun args w=>run_callFunc_extern Tryz.func83 (by kernel_rfl) (by kernel_rfl) (by kernel_rfl) (e:=Extern.BytealgCompare.compare) (by kernel_rfl) args w

theorem aM{X:Ao}{v v':Value}{l l':List B8}{ao ao':Option Addr}{cap cap':Nat}(hS:Sv [X] v 1 (eU .u8 (w:=8)) l ao cap:=by assumption)(hS':Sv [X] v' 1 (eU .u8 (w:=8)) l' ao' cap':=by assumption):Ct Tryz.prog 63 [v,v'] [X] (fun _:Unit=>.int .i64 (Extern.BytealgCompare.cmp (ba l) (ba l'))) (fun _=> [X]):=by
 refine AY (n:=8) Tryz.func63 I I I fun F w0 Q hret hnorm hp=>?_
 change WC _ _ _ _ _ _ _ (_::F)
 refine A4 fun _ K1=>wA I I<|A3 K1<|A4 fun _ K2=>wM I I<|wM I I<|AB (bN cmpE I) I I I ?_
 rintro _ _ ⟨rfl,rfl⟩
 refine wA I I<|A3 K2<|AK ?_
 exact hret.go () (BR rfl rfl)

theorem NT{x y:Ky}(hx:0<=x.2/\x.2<255)(hy:0<=y.2/\y.2<255):Ct Tryz.prog 40 [By x,By y] [] (fun _:Unit=>.int .i64 (c9 x y)) (fun _=> []):=by
 refine AY (n:=19) Tryz.func40 I I I fun F w0 Q hret hnorm hp=>?_
 change WC _ _ _ _ _ _ _ (F)
 refine A4 fun _ K1=>AB (Ay (xs:=Dt x) I I) I I I ?_
 rintro _ _ ⟨b2,rfl,rfl⟩
 refine AB (Ay (xs:=Dt y) I I) I I I ?_
 rintro _ _ ⟨b3,rfl,rfl⟩
 refine wA I I<|A3 K1<|A7 fun _ K2=>A7 fun _ K3=>Am CE (fun i=>([2,2,2,2,1,2]:List Nat).getD i 0) ?_
 refine jP 0 I (A1 I PL) I hp<|jP 1 I (NV I UD Ki) I hp ?_
 refine jP 2 I (A1 I PL) I hp<|jP 3 I (NV I UD Ki) I hp ?_
 refine jO 4<|B7 I (AE cf63 I (hs:=Ct.un0 (Xs:= [cl b2 94 (Dt x),cl b3 94 (Dt y)]) (aM (X:=F7 [cl b2 94 (Dt x),cl b3 94 (Dt y)]) (l:=x.1.l) (l':=y.1.l) (hS:=(Yh (b:=b2) (T:=94) (k:=x)).pk Bf) (hS':=(Yh (b:=b3) (T:=94) (k:=y)).pk Bf)))) I I I I ?_
 rintro _ _ ⟨⟨⟩,rfl,hA⟩
 simp only [ca] at hA
 subst hA
 refine⟨(fun _=>AQ),?_⟩
 refine jP 5 I (Ag I) I hp<|jD<|A5 K3<|A4 fun _ K4=>wM I I<|A2 (Dy I I) I ?_
 refine A3 K4<|AH I (fun hc0=>?_) (fun hc0=>?_)
 ·try simp only [dz] at hc0
  refine A4 fun _ K5=>wM I I<|wA I I<|A3 K5<|AK ?_
  exact hret.goE () (BR rfl rfl) (by unfold c9;first|rw [if_pos (by omega)]|rw [if_neg (by omega)])
 try simp only [dz] at hc0
 refine AA<|A5 K2<|A4 fun _ K6=>A2 (A1 I PK) I<|A2 (A6 I BF (v:=.int .i64 x.2) (hi:=GU x)) I<|A2 (A1 I PK) I<|A2 (A6 I BF (v:=.int .i64 y.2) (hi:=GU y)) I<|A2 (GY I I (JV I (by omega) (by omega))) I ?_
 refine wA I I<|A3 K6<|AK ?_
 exact hret.goE () (BR rfl rfl) (by unfold c9;first|rw [if_pos (by omega)]|rw [if_neg (by omega)])

theorem UW{a:Option Nat}{cap:Nat}{L:List Kp}{ks:List Ky}(hs:SrtK L)(hnum: ∀e∈L,0<=e.num/\e.num<255)(p:ks.Perm (L.map Kp.key))(hn:ks.length<4611686018427387904):
  Ct Tryz.prog 61 [sl a ks.length cap,.func (.func 40) #[] #[]] [Aa a cap 17 94 Dt ks] (fun _:Unit=>.tuple #[]) (fun _=> [Aa a cap 17 94 Dt (L.map Kp.key)]):=by
 have hin: ∀k∈L.map Kp.key,0<=k.2/\k.2<255:=fun k hk=>by
  obtain⟨e,he,rfl⟩:=List.mem_map.1 hk;exact hnum e he
 obtain⟨k8,rfl⟩:=to8 (l:=ks) fun k hk=>hin k (p.mem_iff.1 hk)
 obtain⟨l8,hl8⟩:=to8 hin
 haveI:Inhabited K8:=⟨⟨(⟨List.replicate 16 0#8,rfl⟩,0),by decide⟩⟩
 have h:=Yp f7 17 (fun w=>by kernel_rfl) (fun w=>by kernel_rfl) (fun x:K8=>Dt x.1) (fun x=>Aw x.1) (fun x=>encK.one x.1) aS aQ aP 40 [] e6 [] (fun x y=>NT x.2 y.2) a cap 94 k8 (by rw [<-List.length_map (f:=Subtype.val)];exact hn)
 rw [f9 (l':=l8) (fH (by rw [hl8];exact p)) (fJ (by rw [hl8];exact List.pairwise_map.2 hs))] at h
 rw [List.length_map]
 refine h.conv (fun F w q=>?_) (fun r F w q=>?_)
 ·exact Hl (fun hp z=>VH (f:=Dt) (g:=fun x:K8=>x.1) (fun x=>Aw x.1) hp z) q
 ·refine Hl (fun hp z=>?_) q
  rw [<-hl8]
  exact ae (f:=Dt) (g:=fun x:K8=>x.1) Aw hp z
end Go.Proofs.YtoakfknnaiapiaaGreat
namespace Go.Proofs.YtoakfknnaiapiaaGreat
open Go.RowKit Go.SL Go.ShM Go.SvM
set_option maxHeartbeats 1000000
set_option maxRecDepth 20000
set_option linter.all false
theorem cf62:DF Tryz.prog 62=true:=by kernel_rfl
theorem cf66:DF Tryz.prog 66=true:=by kernel_rfl
theorem el42:el Tryz.prog 42=some (1,4):=by kernel_rfl
theorem el94:el Tryz.prog 94=some (17,24):=by kernel_rfl
theorem sz91:sz Tryz.prog 91=some 1:=by kernel_rfl
theorem f5:sz Tryz.prog 103=some 1:=by kernel_rfl
theorem eu:tk Tryz.prog 91=some none:=by kernel_rfl
theorem bS:tk Tryz.prog 103=some none:=by kernel_rfl
theorem Vm:Tryz.prog.underlying 91=some (.slice 94):=by kernel_rfl
theorem B2:Tryz.prog.underlying 103=some (.slice 42):=by kernel_rfl
theorem zr42:zr Tryz.prog 42=some [.int .u32 0]:=by kernel_rfl
theorem fN{m:Nat} :Ct Tryz.prog 39 [.map (some m)] [] (fun g:Nat=>.func (.func 62) #[] #[.pointer (some ⟨g,0,none⟩)]) (fun g=> [cl g 88 [.map (some m)]]):=by
 refine AY (n:=4) Tryz.func39 I I I fun F w0 Q hret hnorm hp=>?_
 change WC _ _ _ _ _ _ _ (F)
 refine A4 fun _ K1=>AB (Ay (xs:= [.map (some m)]) I I) I I I ?_
 rintro _ _ ⟨b1,rfl,rfl⟩
 refine wA I I<|A3 K1<|A4 fun _ K2=>A2 (Cq I I) I ?_
 refine wA I I<|A3 K2<|AK ?_
 exact hret.go b1 (BR rfl rfl)

theorem Zi{l p m:Nat}{L:List (Ky × Nat)}{X:List Ky ->Ao}(hL:L.length<=100000000)(hy: ∀(dn:List Ky) (k:Ky),dn.length<100000000 ->Yd Tryz.prog l [By k] [X dn] (fun _:Unit=>.bool true) (fun _=> [X (dn++ [k])])):Ct Tryz.prog 62 [yv l,.pointer (some ⟨p,0,none⟩)] [cl p 88 [.map (some m)],Bs m By Cc L,X []] (fun g: {ks:List Ky // ks.Perm (C5 L)} =>.tuple #[]) (fun g=> [cl p 88 [.map (some m)],Bs m By Cc L,X g.1]):=by
 refine AY (n:=14) Tryz.func62 I I I fun F w0 Q hret hnorm hp=>?_
 change WC _ _ _ _ _ _ _ (_::_::_::F)
 refine A4 fun _ K1=>A2 (A6 I Fg (v:=.map (some m))) I<|AB (Im (κ:=Ky) (β:=Nat) I FZ) I I I ?_
 rintro _ _ ⟨r5,rfl,rfl⟩
 refine A3 K1<|AG ?_
 rw [show X []=X (C5 ([]:List (Ky × Nat))) from rfl]
 refine Ak (σ:=(List (Ky × Nat)) × (List (Ky × Nat))) (fun ⟨ts,dn⟩=> []) (fun ⟨ts,dn⟩=> [Gt m r5 By Cc (dn++ts) ts none,X (C5 dn)]) (fun ⟨ts,dn⟩=>(dn++ts).Perm L) (fun ⟨ts,dn⟩=>ts.length) ⟨L,[]⟩ [0,5] Cw fS ?_ ?_ Sub.refl ?_
 ·exact List.Perm.refl _
 ·(try dsimp only);exact Wk.nil
 rintro⟨ts,dn⟩ hpl K2 K2
 simp only [List.cons_append,List.nil_append]
 refine A4 fun _ K3=>AB (Kd (κ:=Ky) (β:=Nat) (kf:=By) (vf:=Cc) KH I) I I I ?_
 rintro _ _ (⟨hre,rfl,rfl⟩|⟨k,v,pre,post,hre,rfl,rfl⟩)
 ·skip
  subst hre
  refine Dl (Gt m r5 By Cc (dn++ []) [] none) (Bs m By Cc L) (KA hpl) ?_
  have hpk:(C5 dn).Perm (C5 L):=by have h:(dn++ []).Perm L:=hpl;rw [List.append_nil] at h;exact h.map _
  refine A2 (BE I) I<|A3 K3<|A7 fun _ K4=>AM I<|Aj ?_
  exact hnorm.go ⟨C5 dn,hpk⟩ (Ke rfl)
 skip
 subst hre
 have hdl:(C5 dn).length<100000000:=by have h:(dn++(pre++(k,v)::post)).Perm L:=hpl;replace h:=h.length_eq;rw [List.length_append,List.length_append,List.length_cons] at h;unfold C5;rw [List.length_map];omega
 refine A2 (BE I) I<|A3 K3<|A7 fun _ K5=>Ad I<|AA<|A5 K5<|AG<|A4 fun _ K6=>A2 (Il I) I ?_
 refine A2 (BE I) I<|AB (AZ JG) I I I ?_
 rintro _ _ ⟨b3,rfl,rfl⟩
 refine AX (AV (ys:=Dt k) I I Hk (h1:=encK.one _) (hv:=by simpa [Value.cells,By] using Aw k) (hr:=by simp [Value.cells,By])) I I ?_
 rintro _ _ rfl
 refine A3 K6<|A4 fun _ K7=>wM I I<|A2 (AI (vs:=Dt k) I Ff (hl:=by rw [Aw];omega) (hi:=by rw [List.drop_zero];exact List.take_of_length_le (Nat.le_of_eq (Aw k)))) I ?_
 refine AB (Ni I I (hy (C5 dn) k hdl)) I I I ?_
 rintro _ _ ⟨⟨⟩,rfl,hA⟩
 simp only [ca] at hA
 subst hA
 rw [N4 (v:=v)]
 refine Dl (Gt m r5 By Cc (dn++(pre++(k,v)::post)) (pre++post) (some (k,v))) (Gt m r5 By Cc ((dn++ [(k,v)])++(pre++post)) (pre++post) none) (Jz yield_perm) ?_
 refine A2 (Au I) I<|A3 K7<|AM I<|AA<|Av (K2 ⟨pre++post,dn++ [(k,v)]⟩ (yield_perm.symm.trans hpl) (by (try dsimp only);rw [List.length_append,List.length_append,List.length_cons];omega))

theorem XK{p m:Nat}{L:List (Ky × Nat)}(hL:L.length<=100000000):Ct Tryz.prog 80 [.slice none 0 0,.func (.func 62) #[] #[.pointer (some ⟨p,0,none⟩)]] [cl p 88 [.map (some m)],Bs m By Cc L] (fun g: {ks:List Ky // ks.Perm (C5 L)} × Option Nat × Nat=>sl g.2.1 g.1.1.length g.2.2) (fun g=> [cl p 88 [.map (some m)],Bs m By Cc L,Aa g.2.1 g.2.2 17 94 Dt g.1.1]):=by
 refine AY (n:=13) Tryz.func80 I I I fun F w0 Q hret hnorm hp=>?_
 change WC _ _ _ _ _ _ _ (_::_::F)
 refine A4 fun _ K1=>AB (Ay (xs:= [.slice none 0 0]) I I) I I I ?_
 rintro _ _ ⟨b2,rfl,rfl⟩
 refine A2 (Ag (v:=sl none 0 0) I) I<|A3 K1<|A7 fun _ K2=>A4 fun _ K3=>wM I I<|A3 K3<|AG<|Cz (fun w h=>BO (e:=17) (T:=94) (f:=Dt) h) ?_
 rw [show cl b2 91 [.slice none 0 0]=cl b2 91 [sl none ([]:List Ky).length 0] from rfl]
 refine YZ (f:=62) (caps:= [.pointer (some ⟨p,0,none⟩)]) I cf62 fun lrf_0 Drf_0 rrf_0 hstrf_0 hpdrf_0 hparf_0 hasrf_0 hbdrf_0 hfrrf_0=>?_
 have hyrf_0: ∀(dn:List Ky) (k:Ky),dn.length<100000000 ->Yd Tryz.prog lrf_0 [By k] [(fun (dn:List Ky)=>M7 (fun (⟨a,cap⟩:(Option Nat) × Nat)=>True) (fun (⟨a,cap⟩:(Option Nat) × Nat)=> [lp lrf_0 rrf_0,cl b2 91 [sl a dn.length cap],Aa a cap 17 94 Dt dn])) dn] (fun b:Bool=>.bool b) (fun b=> [bif b then (fun (dn:List Ky)=>M7 (fun (⟨a,cap⟩:(Option Nat) × Nat)=>True) (fun (⟨a,cap⟩:(Option Nat) × Nat)=> [lp lrf_0 rrf_0,cl b2 91 [sl a dn.length cap],Aa a cap 17 94 Dt dn])) (dn++ [k]) else (M7 (fun _:Unit=>False) (fun _=> []))]):=by
  intro dn k hdn
  refine YU ?_
  rintro⟨a,cap⟩ hφ
  refine YT (pre:= [cl b2 91 [sl a dn.length cap],Aa a cap 17 94 Dt dn]) hstrf_0 hpdrf_0 hparf_0 hasrf_0 hbdrf_0 hfrrf_0 I I fun F w0 Q K hp hend hbeg=>?_
  change WC _ _ _ _ _ _ ((7,By k)::_) (_::_::_::F)
  dsimp only at*
  refine AD<|AB (AZ JG) I I I ?_
  rintro _ _ ⟨b5,rfl,rfl⟩
  refine AX (AV (ys:=Dt k) I I Hk (h1:=encK.one _) (hv:=by simpa [Value.cells,By] using Aw k) (hr:=by simp [Value.cells,By])) I I ?_
  rintro _ _ rfl
  refine AW<|hbeg (by repeat (first|with_reducible exact Ext.here|with_reducible apply Ext.there)) ?_
  refine AG<|AD<|A2 (A6 I eu (v:=sl a dn.length cap)) I<|A2 (AI (vs:=Dt k) I Ff (hl:=by rw [Aw];omega) (hi:=by rw [List.drop_zero];exact List.take_of_length_le (Nat.le_of_eq (Aw k)))) I ?_
  refine AB (Br (xs:=Dt k) I Vm JG Hk (hl:=Aw k)) I I I ?_
  rintro _ _ ⟨b10,rfl,rfl⟩
  refine AB (B6 (f:=Dt) encK k I I Vm Vm el94) I I I ?_
  rintro _ _ ⟨a11,cap11,rfl,rfl⟩
  refine AX (Ar I I sz91) I I ?_
  rintro _ _ rfl
  refine AW ?_
  rw [show dn.length+1=(dn++ [k]).length from by rw [List.length_append];rfl]
  refine hend.nrm true I (by repeat (first|with_reducible exact Ext.here|with_reducible apply Ext.there)) ?_
  try simp only [List.cons_append,List.nil_append,cond_true,cond_false]
  exact N8 (⟨a11,cap11⟩) (trivial) (by (try dsimp only);(try simp only [List.cons_append,List.nil_append]);repeat (first|with_reducible exact Sub.refl|with_reducible exact Sub.nil|with_reducible refine Sub.cons (by repeat (first|with_reducible exact Ext.here|with_reducible apply Ext.there)) ?_|with_reducible refine Sub.tail ?_))
 refine⟨_,_,_,_,_,Zi (m:=m) (L:=L) (X:=(fun (dn:List Ky)=>M7 (fun (⟨a,cap⟩:(Option Nat) × Nat)=>True) (fun (⟨a,cap⟩:(Option Nat) × Nat)=> [lp lrf_0 rrf_0,cl b2 91 [sl a dn.length cap],Aa a cap 17 94 Dt dn]))) (p:=p) (l:=lrf_0) hL (fun dn k hd=>Ty (hyrf_0 dn k hd)),SZ (Y:= [_,_]) (⟨none,0⟩) (trivial) Gu D8,?_⟩
 rintro⟨ks,hks⟩
 simp only [List.cons_append,List.nil_append,cond_true,cond_false]
 refine Kb ?_
 rintro⟨a,cap⟩ hφ
 simp only [List.cons_append,List.nil_append]
 refine LH hstrf_0 hpdrf_0 ?_
 refine A5 K2<|A4 fun _ K4=>A2 (A6 I eu (v:=sl a ks.length cap)) I<|wA I I<|A3 K4<|AK ?_
 exact hret.goD (⟨ks,hks⟩,a,cap) (BR rfl rfl)

theorem bg{m:Nat} :Ct Tryz.prog 43 [.map (some m)] [] (fun g:Nat=>.func (.func 66) #[] #[.pointer (some ⟨g,0,none⟩)]) (fun g=> [cl g 100 [.map (some m)]]):=by
 refine AY (n:=4) Tryz.func43 I I I fun F w0 Q hret hnorm hp=>?_
 change WC _ _ _ _ _ _ _ (F)
 refine A4 fun _ K1=>AB (Ay (xs:= [.map (some m)]) I I) I I I ?_
 rintro _ _ ⟨b1,rfl,rfl⟩
 refine wA I I<|A3 K1<|A4 fun _ K2=>A2 (Cq I I) I ?_
 refine wA I I<|A3 K2<|AK ?_
 exact hret.go b1 (BR rfl rfl)

theorem Zg{l p m:Nat}{L:List (Bv × Int)}{X:List Bv ->Ao}(hL:L.length<=100000000)(hy: ∀(dn:List Bv) (k:Bv),dn.length<100000000 ->Yd Tryz.prog l [Dn k] [X dn] (fun _:Unit=>.bool true) (fun _=> [X (dn++ [k])])):Ct Tryz.prog 66 [yv l,.pointer (some ⟨p,0,none⟩)] [cl p 100 [.map (some m)],Bs m Dn DY L,X []] (fun g: {ks:List Bv // ks.Perm (C5 L)} =>.tuple #[]) (fun g=> [cl p 100 [.map (some m)],Bs m Dn DY L,X g.1]):=by
 refine AY (n:=14) Tryz.func66 I I I fun F w0 Q hret hnorm hp=>?_
 change WC _ _ _ _ _ _ _ (_::_::_::F)
 refine A4 fun _ K1=>A2 (A6 I Fb (v:=.map (some m))) I<|AB (Im (κ:=Bv) (β:=Int) I EW) I I I ?_
 rintro _ _ ⟨r5,rfl,rfl⟩
 refine A3 K1<|AG ?_
 rw [show X []=X (C5 ([]:List (Bv × Int))) from rfl]
 refine Ak (σ:=(List (Bv × Int)) × (List (Bv × Int))) (fun ⟨ts,dn⟩=> []) (fun ⟨ts,dn⟩=> [Gt m r5 Dn DY (dn++ts) ts none,X (C5 dn)]) (fun ⟨ts,dn⟩=>(dn++ts).Perm L) (fun ⟨ts,dn⟩=>ts.length) ⟨L,[]⟩ [0,5] Cw fS ?_ ?_ Sub.refl ?_
 ·exact List.Perm.refl _
 ·(try dsimp only);exact Wk.nil
 rintro⟨ts,dn⟩ hpl K2 K2
 simp only [List.cons_append,List.nil_append]
 refine A4 fun _ K3=>AB (Kd (κ:=Bv) (β:=Int) (kf:=Dn) (vf:=DY) P7 I) I I I ?_
 rintro _ _ (⟨hre,rfl,rfl⟩|⟨k,v,pre,post,hre,rfl,rfl⟩)
 ·skip
  subst hre
  refine Dl (Gt m r5 Dn DY (dn++ []) [] none) (Bs m Dn DY L) (KA hpl) ?_
  have hpk:(C5 dn).Perm (C5 L):=by have h:(dn++ []).Perm L:=hpl;rw [List.append_nil] at h;exact h.map _
  refine A2 (BE I) I<|A3 K3<|A7 fun _ K4=>AM I<|Aj ?_
  exact hnorm.go ⟨C5 dn,hpk⟩ (Ke rfl)
 skip
 subst hre
 have hdl:(C5 dn).length<100000000:=by have h:(dn++(pre++(k,v)::post)).Perm L:=hpl;replace h:=h.length_eq;rw [List.length_append,List.length_append,List.length_cons] at h;unfold C5;rw [List.length_map];omega
 refine A2 (BE I) I<|A3 K3<|A7 fun _ K5=>Ad I<|AA<|A5 K5<|AG<|A4 fun _ K6=>A2 (Il I) I ?_
 refine A2 (BE I) I<|wA I I<|A3 K6<|A4 fun _ K7=>wM I I<|wM I I<|AB (Ni I I (hy (C5 dn) k hdl)) I I I ?_
 rintro _ _ ⟨⟨⟩,rfl,hA⟩
 simp only [ca] at hA
 subst hA
 rw [N4 (v:=v)]
 refine Dl (Gt m r5 Dn DY (dn++(pre++(k,v)::post)) (pre++post) (some (k,v))) (Gt m r5 Dn DY ((dn++ [(k,v)])++(pre++post)) (pre++post) none) (Jz yield_perm) ?_
 refine A2 (Au I) I<|A3 K7<|AM I<|AA<|Av (K2 ⟨pre++post,dn++ [(k,v)]⟩ (yield_perm.symm.trans hpl) (by (try dsimp only);rw [List.length_append,List.length_append,List.length_cons];omega))

theorem XE{p m:Nat}{L:List (Bv × Int)}(hL:L.length<=100000000):Ct Tryz.prog 84 [.slice none 0 0,.func (.func 66) #[] #[.pointer (some ⟨p,0,none⟩)]] [cl p 100 [.map (some m)],Bs m Dn DY L] (fun g: {ks:List Bv // ks.Perm (C5 L)} × Option Nat × Nat=>sl g.2.1 g.1.1.length g.2.2) (fun g=> [cl p 100 [.map (some m)],Bs m Dn DY L,Aa g.2.1 g.2.2 1 42 (eU .u32 (w:=32)) g.1.1]):=by
 refine AY (n:=13) Tryz.func84 I I I fun F w0 Q hret hnorm hp=>?_
 change WC _ _ _ _ _ _ _ (_::_::F)
 refine A4 fun _ K1=>AB (Ay (xs:= [.slice none 0 0]) I I) I I I ?_
 rintro _ _ ⟨b2,rfl,rfl⟩
 refine A2 (Ag (v:=sl none 0 0) I) I<|A3 K1<|A7 fun _ K2=>A4 fun _ K3=>wM I I<|A3 K3<|AG<|Cz (fun w h=>BO (e:=1) (T:=42) (f:=(eU .u32 (w:=32))) h) ?_
 rw [show cl b2 103 [.slice none 0 0]=cl b2 103 [sl none ([]:List Bv).length 0] from rfl]
 refine YZ (f:=66) (caps:= [.pointer (some ⟨p,0,none⟩)]) I cf66 fun lrf_0 Drf_0 rrf_0 hstrf_0 hpdrf_0 hparf_0 hasrf_0 hbdrf_0 hfrrf_0=>?_
 have hyrf_0: ∀(dn:List Bv) (k:Bv),dn.length<100000000 ->Yd Tryz.prog lrf_0 [Dn k] [(fun (dn:List Bv)=>M7 (fun (⟨a,cap⟩:(Option Nat) × Nat)=>True) (fun (⟨a,cap⟩:(Option Nat) × Nat)=> [lp lrf_0 rrf_0,cl b2 103 [sl a dn.length cap],Aa a cap 1 42 (eU .u32 (w:=32)) dn])) dn] (fun b:Bool=>.bool b) (fun b=> [bif b then (fun (dn:List Bv)=>M7 (fun (⟨a,cap⟩:(Option Nat) × Nat)=>True) (fun (⟨a,cap⟩:(Option Nat) × Nat)=> [lp lrf_0 rrf_0,cl b2 103 [sl a dn.length cap],Aa a cap 1 42 (eU .u32 (w:=32)) dn])) (dn++ [k]) else (M7 (fun _:Unit=>False) (fun _=> []))]):=by
  intro dn k hdn
  refine YU ?_
  rintro⟨a,cap⟩ hφ
  refine YT (pre:= [cl b2 103 [sl a dn.length cap],Aa a cap 1 42 (eU .u32 (w:=32)) dn]) hstrf_0 hpdrf_0 hparf_0 hasrf_0 hbdrf_0 hfrrf_0 I I fun F w0 Q K hp hend hbeg=>?_
  change WC _ _ _ _ _ _ ((7,Dn k)::_) (_::_::_::F)
  dsimp only at*
  refine AD<|wA I I<|AW<|hbeg (by repeat (first|with_reducible exact Ext.here|with_reducible apply Ext.there)) ?_
  refine AG<|AD<|A2 (A6 I bS (v:=sl a dn.length cap)) I<|wM I I<|AB (Br (xs:= [.int .u32 (k.toNat:Int)]) I B2 zr42 BI) I I I ?_
  rintro _ _ ⟨b10,rfl,rfl⟩
  refine AB (B6 (f:=(eU .u32 (w:=32))) (Em .u32 (w:=32)) k I I B2 B2 el42) I I I ?_
  rintro _ _ ⟨a11,cap11,rfl,rfl⟩
  refine AX (Ar I I f5) I I ?_
  rintro _ _ rfl
  refine AW ?_
  rw [show dn.length+1=(dn++ [k]).length from by rw [List.length_append];rfl]
  refine hend.nrm true I (by repeat (first|with_reducible exact Ext.here|with_reducible apply Ext.there)) ?_
  try simp only [List.cons_append,List.nil_append,cond_true,cond_false]
  exact N8 (⟨a11,cap11⟩) (trivial) (by (try dsimp only);(try simp only [List.cons_append,List.nil_append]);repeat (first|with_reducible exact Sub.refl|with_reducible exact Sub.nil|with_reducible refine Sub.cons (by repeat (first|with_reducible exact Ext.here|with_reducible apply Ext.there)) ?_|with_reducible refine Sub.tail ?_))
 refine⟨_,_,_,_,_,Zg (m:=m) (L:=L) (X:=(fun (dn:List Bv)=>M7 (fun (⟨a,cap⟩:(Option Nat) × Nat)=>True) (fun (⟨a,cap⟩:(Option Nat) × Nat)=> [lp lrf_0 rrf_0,cl b2 103 [sl a dn.length cap],Aa a cap 1 42 (eU .u32 (w:=32)) dn]))) (p:=p) (l:=lrf_0) hL (fun dn k hd=>Ty (hyrf_0 dn k hd)),SZ (Y:= [_,_]) (⟨none,0⟩) (trivial) Gu D8,?_⟩
 rintro⟨ks,hks⟩
 simp only [List.cons_append,List.nil_append,cond_true,cond_false]
 refine Kb ?_
 rintro⟨a,cap⟩ hφ
 simp only [List.cons_append,List.nil_append]
 refine LH hstrf_0 hpdrf_0 ?_
 refine A5 K2<|A4 fun _ K4=>A2 (A6 I bS (v:=sl a ks.length cap)) I<|wA I I<|A3 K4<|AK ?_
 exact hret.goD (⟨ks,hks⟩,a,cap) (BR rfl rfl)
end Go.Proofs.YtoakfknnaiapiaaGreat
namespace Go.Proofs.YtoakfknnaiapiaaGreat
open Go.RowKit Go.SL Go.ShM Go.SvM
set_option maxHeartbeats 1000000
set_option maxRecDepth 20000
set_option linter.all false
theorem cf60:DF Tryz.prog 60=true:=by kernel_rfl
theorem cf61:DF Tryz.prog 61=true:=by kernel_rfl
theorem cf64:DF Tryz.prog 64=true:=by kernel_rfl
theorem cf65:DF Tryz.prog 65=true:=by kernel_rfl
theorem cf80:DF Tryz.prog 80=true:=by kernel_rfl
theorem cf84:DF Tryz.prog 84=true:=by kernel_rfl
theorem XJ{p m:Nat}{L:List (Ky × Nat)}(hL:L.length<=100000000):Ct Tryz.prog 60 [.func (.func 62) #[] #[.pointer (some ⟨p,0,none⟩)]] [cl p 88 [.map (some m)],Bs m By Cc L] (fun g: {ks:List Ky // ks.Perm (C5 L)} × Option Nat × Nat=>sl g.2.1 g.1.1.length g.2.2) (fun g=> [cl p 88 [.map (some m)],Bs m By Cc L,Aa g.2.1 g.2.2 17 94 Dt g.1.1]):=by
 refine AY (n:=5) Tryz.func60 I I I fun F w0 Q hret hnorm hp=>?_
 change WC _ _ _ _ _ _ _ (_::_::F)
 refine A4 fun _ K1=>A2 (Ag (v:=sl none 0 0) I) I<|A3 K1<|A4 fun _ K2=>wM I I<|AB (AE cf80 I (hs:=XK (p:=p) (m:=m) (L:=L) hL)) I I I ?_
 rintro _ _ ⟨⟨⟨ks,hks⟩,a,cap⟩,rfl,hA⟩
 simp only [ca] at hA
 subst hA
 refine wA I I<|A3 K2<|AK ?_
 exact hret.go (⟨ks,hks⟩,a,cap) (BR rfl rfl)

theorem XD{p m:Nat}{L:List (Bv × Int)}(hL:L.length<=100000000):Ct Tryz.prog 64 [.func (.func 66) #[] #[.pointer (some ⟨p,0,none⟩)]] [cl p 100 [.map (some m)],Bs m Dn DY L] (fun g: {ks:List Bv // ks.Perm (C5 L)} × Option Nat × Nat=>sl g.2.1 g.1.1.length g.2.2) (fun g=> [cl p 100 [.map (some m)],Bs m Dn DY L,Aa g.2.1 g.2.2 1 42 (eU .u32 (w:=32)) g.1.1]):=by
 refine AY (n:=5) Tryz.func64 I I I fun F w0 Q hret hnorm hp=>?_
 change WC _ _ _ _ _ _ _ (_::_::F)
 refine A4 fun _ K1=>A2 (Ag (v:=sl none 0 0) I) I<|A3 K1<|A4 fun _ K2=>wM I I<|AB (AE cf84 I (hs:=XE (p:=p) (m:=m) (L:=L) hL)) I I I ?_
 rintro _ _ ⟨⟨⟨ks,hks⟩,a,cap⟩,rfl,hA⟩
 simp only [ca] at hA
 subst hA
 refine wA I I<|A3 K2<|AK ?_
 exact hret.go (⟨ks,hks⟩,a,cap) (BR rfl rfl)

theorem Qo{p m:Nat}{L:List En}(hs:SrtK (L.map En.e))(hnum: ∀e∈L.map En.e,0<=e.num/\e.num<255)(hL:L.length<=100000000):Ct Tryz.prog 38 [.func (.func 62) #[] #[.pointer (some ⟨p,0,none⟩)],.func (.func 40) #[] #[]] [cl p 88 [.map (some m)],Bs m By Cc (L.map En.kp)] (fun g:Option Nat × Nat=>sl g.1 ((L.map En.e).map Kp.key).length g.2) (fun g=> [cl p 88 [.map (some m)],Bs m By Cc (L.map En.kp),Aa g.1 g.2 17 94 Dt ((L.map En.e).map Kp.key)]):=by
 refine AY (n:=12) Tryz.func38 I I I fun F w0 Q hret hnorm hp=>?_
 change WC _ _ _ _ _ _ _ (_::_::F)
 refine A4 fun _ K1=>A2 (Ag (v:=sl none 0 0) I) I<|A3 K1<|A4 fun _ K2=>wM I I<|AB (AE cf60 I (hs:=XJ (p:=p) (m:=m) (L:=L.map En.kp) (by rw [List.length_map];exact hL))) I I I ?_
 rintro _ _ ⟨⟨⟨ks,hks⟩,a,cap⟩,rfl,hA⟩
 simp only [ca] at hA
 subst hA
 have hkp:ks.Perm ((L.map En.e).map Kp.key):=by rw [<-Lv];exact hks
 have hkl:ks.length=((L.map En.e).map Kp.key).length:=hkp.length_eq
 have hkm:((L.map En.e).map Kp.key).length=L.length:=by rw [List.length_map,List.length_map]
 refine wA I I<|A3 K2<|A4 fun _ K3=>wM I I<|wM I I<|AB (AE cf61 I (hs:=UW (a:=a) (cap:=cap) (ks:=ks) hs hnum hkp (by omega))) I I I ?_
 rintro _ _ ⟨⟨⟩,rfl,hA⟩
 simp only [ca] at hA
 subst hA
 refine A3 K3<|A4 fun _ K4=>wM I I<|wA I I<|A3 K4<|AK ?_
 exact hret.goE (a,cap) (BR rfl rfl) (by rw [hkl])

def U3(N:Nat):Prop:= ∀(a:Option Nat) (cap:Nat) (l:List Bv),l.length<=N ->Ct Tryz.prog 65 [sl a l.length cap] [Aa a cap 1 42 (eU .u32 (w:=32)) l] (fun _:Unit=>.tuple #[]) (fun _=> [Aa a cap 1 42 (eU .u32 (w:=32)) (l.mergeSort fun x y=>decide (x.toNat<=y.toNat))])

theorem LU{p m N:Nat}{ls:List Ls}(hsort:U3 N)(hs:SrtW ls)(hL:ls.length<=N)(hN:N<=100000000):Ct Tryz.prog 42 [.func (.func 66) #[] #[.pointer (some ⟨p,0,none⟩)]] [cl p 100 [.map (some m)],Bs m Dn DY ls] (fun g:Option Nat × Nat=>sl g.1 (ls.map Prod.fst).length g.2) (fun g=> [cl p 100 [.map (some m)],Bs m Dn DY ls,Aa g.1 g.2 1 42 (eU .u32 (w:=32)) (ls.map Prod.fst)]):=by
 refine AY (n:=9) Tryz.func42 I I I fun F w0 Q hret hnorm hp=>?_
 change WC _ _ _ _ _ _ _ (_::_::F)
 refine A4 fun _ K1=>A2 (Ag (v:=sl none 0 0) I) I<|A3 K1<|A4 fun _ K2=>wM I I<|AB (AE cf64 I (hs:=XD (p:=p) (m:=m) (L:=ls) (by omega))) I I I ?_
 rintro _ _ ⟨⟨⟨ks,hks⟩,a,cap⟩,rfl,hA⟩
 simp only [ca] at hA
 subst hA
 have hkp:ks.Perm (ls.map Prod.fst):=hks
 have hkl:ks.length=(ls.map Prod.fst).length:=hkp.length_eq
 have hkm:(ls.map Prod.fst).length=ls.length:=List.length_map _
 have hso:=SA hkp (List.pairwise_map.2 hs)
 refine wA I I<|A3 K2<|A4 fun _ K3=>wM I I<|AB (AE cf65 I (hs:=hsort a cap ks (by omega))) I I I ?_
 rintro _ _ ⟨⟨⟩,rfl,hA⟩
 simp only [ca] at hA
 subst hA
 rw [hso]
 refine A3 K3<|A4 fun _ K4=>wM I I<|wA I I<|A3 K4<|AK ?_
 exact hret.goE (a,cap) (BR rfl rfl) (by rw [hkl])
end Go.Proofs.YtoakfknnaiapiaaGreat
/-
 What a server tells of itself,in memory. (Conditions:none;generic over the program.)
-/
set_option maxRecDepth 20000
namespace Go.SvM
open Go.SL Go.ShM Go.RowKit
def FM(ix:Ix)(n:Int)(bv lv:Value):List Value:=ix.l.flatMap (eU .u8 (w:=8))++ [.int .i64 n,bv,lv]
theorem IS(ix:Ix):(ix.l.flatMap (eU .u8 (w:=8))).length=16:=by rw [C7,ix.h]
theorem Da(ix:Ix)(n:Int)(bv lv:Value):(FM ix n bv lv).length=19:=by unfold FM;rw [List.length_append,IS];rfl
theorem P5(ix:Ix)(n:Int)(bv lv:Value):((FM ix n bv lv).drop 0).take 16=ix.l.flatMap (eU .u8):=by unfold FM;exact List.take_left' (IS ix)
theorem P6(ix:Ix)(n:Int)(bv lv:Value)(j:Nat):(FM ix n bv lv)[16+j]? = [Value.int .i64 n,bv,lv][j]? :=by
 unfold FM
 rw [List.getElem?_append_right (by rw [IS];omega),IS,Nat.add_sub_cancel_left]
theorem Ly(ix:Ix)(n:Int)(bv lv:Value):(FM ix n bv lv)[16]? =some (.int .i64 n):=P6 ix n bv lv 0
theorem O7(ix:Ix)(n:Int)(bv lv:Value):(FM ix n bv lv)[17]? =some bv:=P6 ix n bv lv 1
theorem Je(ix:Ix)(n:Int)(bv lv:Value):(FM ix n bv lv)[18]? =some lv:=P6 ix n bv lv 2
theorem Lz(ix:Ix)(n:Int)(bv lv:Value):((FM ix n bv lv).drop 0).take 19=FM ix n bv lv:=List.take_of_length_le (Nat.le_of_eq (Da ix n bv lv))
theorem Lx(ix:Ix)(n:Int)(bv lv v:Value):(FM ix n bv lv).set 18 v=FM ix n bv v:=by
 unfold FM
 rw [List.set_append_right _ _ (by rw [IS];omega),IS];rfl
theorem J4{ix:Ix}{n:Int}{bv lv:Value}(h1:bv.oneCell'=true)(h2:lv.oneCell'=true): ∀v∈FM ix n bv lv,v.oneCell'=true:=fun v hv=>by
 unfold FM at hv
 rcases List.mem_append.1 hv with h|h
 ·obtain⟨a,_,ha⟩:=List.mem_flatMap.1 h
  exact(Em .u8).one a v ha
 ·simp only [List.mem_cons,List.not_mem_nil,or_false] at h
  rcases h with rfl|rfl|rfl
  ·rfl
  ·exact h1
  ·exact h2
def C9(x:Ls):List Value:= [.int .u32 (x.1.toNat:Int),.int .i64 x.2]
theorem encLs:Enc C9 2:=⟨fun _=>rfl,fun x v hv=>by
 simp only [C9,List.mem_cons,List.not_mem_nil,or_false] at hv
 rcases hv with rfl|rfl <;>rfl⟩
structure KM where
 e:Kp
 ba:Option Nat
 bc:Nat
 la:Option Nat
 lc:Nat
def BH(k:KM):List Value:=FM k.e.ix k.e.num (sl k.ba k.e.b.length k.bc) (sl k.la k.e.ls.length k.lc)
theorem encKM:Enc BH 19:=⟨fun k=>Da _ _ _ _,fun k=>J4 rfl rfl⟩
def CQ(tU tL:TypeId)(k:KM):Ao:=F7 [Aa k.ba k.bc 1 tU (eU .u8 (w:=8)) k.e.b,Aa k.la k.lc 2 tL C9 k.e.ls]
theorem SD{tU tL:TypeId}{ks:List KM}{k:KM}{S:List Ao}{w:World}(h:sat w (star (CQ tU tL) ks::Aa k.ba k.bc 1 tU (eU .u8 (w:=8)) k.e.b::Aa k.la k.lc 2 tL C9 k.e.ls::S)):sat w (star (CQ tU tL) (ks++ [k])::S):=by
 have h2:sat w (CQ tU tL k::star (CQ tU tL) ks::S):=by
  unfold CQ
  rw [Bb]
  exact AS ((List.Perm.swap _ _ _).trans (List.Perm.cons _ (.swap _ _ _))) h
 exact Dz (l:=k::ks) (List.perm_append_comm (l₁:= [k])) (DZ.2 h2)
section
variable {P : Program} {m : Md} {ops : Array Oper} {Q : Exit → Act → World → Prop} {w0 : World} {n : Nat} {rest : List Oper} {L : List (Nat × Value)} {A0 R : List Ao} {c : Code}
theorem JD(tU tL:TypeId)(ks:List KM)(e:Kp)(ba:Option Nat)(bc:Nat)(la:Option Nat)(lc:Nat)(k:WL P m ops Q w0 n rest L (star (CQ tU tL) (ks++ [⟨e,ba,bc,la,lc⟩])::R))(hG:Gv A0 [star (CQ tU tL) ks,Aa ba bc 1 tU (eU .u8 (w:=8)) e.b,Aa la lc 2 tL C9 e.ls] R:=by repeat (first|with_reducible exact Gv.nil|(with_reducible apply Gv.cons;· (repeat (first|with_reducible exact Ext.here|with_reducible apply Ext.there))))):WL P m ops Q w0 n rest L A0:=
 ER (fun _ hs=>SD (k:=⟨e,ba,bc,la,lc⟩) (AS hG hs)) k
end
theorem eD{L:List En}(h:SrtK (L.map En.e)){i:Nat}(hi:i<L.length): ∃A x B,L=A++x::B/\((L.map En.e).map Kp.key)[i]? =some x.e.key/\DV x.e.key L=some x/\x∈L/\(L.map En.e).take (i+1)=(L.map En.e).take i++ [x.e]:=by
 have hx:L=L.take i++L[i]::L.drop (i+1):=by rw [List.getElem_cons_drop,List.take_append_drop]
 refine⟨L.take i,L[i],L.drop (i+1),hx,?_,?_,List.getElem_mem hi,?_⟩
 ·rw [List.getElem?_map,List.getElem?_map,List.getElem?_eq_getElem hi];rfl
 ·have key: ∀(x:En) (A B:List En),((A++x::B).map fun y=>y.e.key).Nodup ->DV x.e.key (A++x::B)=some x:=fun x A B hnd=>by
   rw [List.map_append,List.map_cons] at hnd
   have h2:=List.nodup_cons.1 ((List.perm_middle.nodup_iff).1 hnd)
   rw [List.mem_append,not_or] at h2
   refine Tl rfl fun y hy e=>h2.1.1 ?_
   rw [<-e];exact List.mem_map.2 ⟨y,hy,rfl⟩
  have:=key L[i] (L.take i) (L.drop (i+1)) (by rw [<-hx];exact Jc h)
  rw [<-hx] at this
  exact this
 ·rw [List.take_add_one,List.getElem?_map,List.getElem?_eq_getElem hi];rfl
theorem bY{ls:List Ls}(h:SrtW ls){j:Nat}(hj:j<ls.length): ∃x,ls[j]? =some x/\(ls.map Prod.fst)[j]? =some x.1/\E8 x.1 ls=some x.2/\ls.take (j+1)=ls.take j++ [x]:=by
 refine⟨ls[j],List.getElem?_eq_getElem hj,by rw [List.getElem?_map,List.getElem?_eq_getElem hj];rfl,?_,by rw [List.take_add_one,List.getElem?_eq_getElem hj];rfl⟩
 have hnd:=h.nd
 have: ∀(l:List Ls) (x:Ls),(l.map Prod.fst).Nodup ->x∈l ->E8 x.1 l=some x.2:=fun l=>by
  induction l with
  |nil=>intro x _ hx;cases hx
  |cons y r ih=>
   intro x hn hx
   rw [List.map_cons,List.nodup_cons] at hn
   rcases List.mem_cons.1 hx with q|q
   ·rw [q];exact Hv rfl
   ·rw [Hu (fun e=>hn.1 (by rw [e];exact List.mem_map.2 ⟨x,q,rfl⟩))]
    exact ih x hn.2 q
 exact this ls _ hnd (List.getElem_mem hj)
end Go.SvM
