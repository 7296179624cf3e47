/-
  Contracts of functions that the claim reaches, or the logic and the plain laws that they rest on, or the row over them. (Conditions: none beyond the statement.)
-/
import Derived.Test.YtoakfknnaiapiaaGreatKAQ
import Derived.Test.YtoakfknnaiapiaaGreatKAE
import Derived.Test.YtoakfknnaiapiaaGreatLibA
import Derived.Test.YtoakfknnaiapiaaGreatKAA
set_option linter.all false
namespace Go.Proofs.YtoakfknnaiapiaaGreat
open Go.RowKit Go.SL Go.ShM Go.SvM
set_option maxHeartbeats 1000000
set_option maxRecDepth 20000
set_option linter.all false

theorem TF{rp:Rp}{R:List Ao}{w:World}(h1:rp.ns= [])(h2:rp.bs= [])(h:sat w R): ∃g:RpG eI rp,g.v= .agg [.int .u8 rp.kind,.slice none 0 0,.slice none 0 0].toArray/\sat w (g.X::R):=by
 obtain⟨k,ns,bs⟩:=rp
 simp only at h1 h2
 subst h1;subst h2
 exact Lm Jl (rp:=⟨k,[],[]⟩) (na:=none) (ba:=none) (nc:=0) (bc:=0) (tI:=3) (tU:=5) (BO (BO h))
theorem fA{rp:Rp}{na:Option Nat}{nc:Nat}{R:List Ao}{w:World}(h2:rp.bs= [])(h:sat w (Aa na nc 1 3 eI rp.ns::R)): ∃g:RpG eI rp,g.v= .agg [.int .u8 rp.kind,sl na rp.ns.length nc,.slice none 0 0].toArray/\sat w (g.X::R):=by
 obtain⟨k,ns,bs⟩:=rp
 simp only at h2 h
 subst h2
 have h3:=BO (e:=1) (T:=5) (f:=(eU .u8 (w:=8))) h
 exact Lm Jl (rp:=⟨k,ns,[]⟩) (na:=na) (ba:=none) (nc:=nc) (bc:=0) (tI:=3) (tU:=5) (AS (show Gv _ [Aa na nc 1 3 eI ns,Aa none 0 1 5 (eU .u8 (w:=8)) []] R from Gu) h3)
theorem fB{rp:Rp}{ba:Option Nat}{bc:Nat}{R:List Ao}{w:World}(h2:rp.ns= [])(h:sat w (Aa ba bc 1 5 (eU .u8 (w:=8)) rp.bs::R)): ∃g:RpG eI rp,g.v= .agg [.int .u8 rp.kind,.slice none 0 0,sl ba rp.bs.length bc].toArray/\sat w (g.X::R):=by
 obtain⟨k,ns,bs⟩:=rp
 simp only at h2 h
 subst h2
 exact Lm Jl (rp:=⟨k,[],bs⟩) (na:=none) (ba:=ba) (nc:=0) (bc:=bc) (tI:=3) (tU:=5) (BO h)
theorem V3{p:Nat}{room t:Int}{s:Sv1}{r:Rq}{Y:Ao}(hw:Wf room s)(hn:s.l.length<=100000000)(h1:s.tick<=t)(h2:t<=1099511627776)(hyes:(IE r && C2 t r)=true)(hk:r.kind=3#8):
  Ct Tryz.prog 52 [.pointer (some ⟨p,0,none⟩),.int .i64 t,.agg (CP r).toArray] [Du 24 83 5 44 p room s,Y] (fun g:RpG eI (FU (BW t s.l) r)=>.tuple #[g.v,.int .i64 0]) (fun g=> [Du 24 83 5 44 p room ⟨t,BW t s.l⟩,Y,g.X]):=
 G6 fun q hq=>by
  obtain⟨kms,ka,kc⟩:=q
  obtain⟨stk,sL⟩:=s
  simp only at hq hn h1 hw ⊢
  subst hq
  have hf3:=(KB (Bool.and_eq_true_iff.1 hyes).1).fetch hk
  have hn':kms.length<=100000000:=by rw [List.length_map] at hn;exact hn
  have hls: ∀k∈kms,k.e.ls.length<=100000:=fun k hk=>by have:=(hw.ls k.e (List.mem_map.2 ⟨k,hk,rfl⟩)).2;omega
  have hw2:=hw.tick h1 h2
  simp only at hw2
  have hat:r.at_=((r.at_.toNat:Nat):Int):=by omega
  have hln:r.len=((r.len.toNat:Nat):Int):=by omega
  have fin: ∀(g: {g:List KM × Option Nat × Nat // g.1.map KM.e=(BW t (kms.map KM.e))}) (F:List Ao) (w:World),sat w ([cl p 24 [.int .i64 room,.int .i64 t,sl g.1.2.1 g.1.1.length g.1.2.2],Aa g.1.2.1 g.1.2.2 19 83 BH g.1.1,star (CQ 5 44) g.1.1,Y]++F) ->FU (BW t (kms.map KM.e)) r=Or 6 -> ∃g':RpG eI (FU (BW t (kms.map KM.e)) r),(Value.tuple #[.agg [.int .u8 6,.slice none 0 0,.slice none 0 0].toArray,.int .i64 0])= .tuple #[g'.v,.int .i64 0]/\sat w ([Du 24 83 5 44 p room ⟨t,(BW t (kms.map KM.e))⟩,Y,g'.X]++F):=fun g F w z e=>by
   obtain⟨gr,e1,z1⟩:=TF (rp:=FU (BW t (kms.map KM.e)) r) (by rw [e];rfl) (by rw [e];rfl) z
   refine⟨gr,by rw [e1,e];rfl,?_⟩
   simp only [List.cons_append,List.nil_append] at z1 ⊢
   have z2:=AS (show Gv _ [cl p 24 [.int .i64 room,.int .i64 t,sl g.1.2.1 g.1.1.length g.1.2.2],Aa g.1.2.1 g.1.2.2 19 83 BH g.1.1,star (CQ 5 44) g.1.1] (gr.X::Y::F) from by first|exact Gu|exact Gv.cons (Ext.there Ext.here) (Gv.cons (Ext.there Ext.here) (Gv.cons (Ext.there Ext.here) Gv.nil))) z1
   have z3:=E5 (tS:=24) (s:=⟨t,(BW t (kms.map KM.e))⟩) g.1.1 g.1.2.1 g.1.2.2 g.2 z2
   exact AS (show Gv _ [Du 24 83 5 44 p room ⟨t,(BW t (kms.map KM.e))⟩,Y,gr.X] F from Gu) z3
  cases hf:Ed (r.ix,r.num) (BW t (kms.map KM.e)) with
  |none=>exact(V5 (p:=p) (Y:=Y) hn' hls h1 h2 hyes hk hat hln (by omega) (by omega) hf).reg fun g F w z=>fin g F w z (OI (Hy hf))
  |some i=>
   obtain⟨e,he,hke,hfk⟩:=L1 hf
   have hbl:=hw2.len e (List.mem_of_getElem? he)
   by_cases h3:(e.b.length:Int)<r.at_+r.len
   ·exact(Xu (p:=p) (Y:=Y) hn' hls h1 h2 hyes hk hat hln (by omega) (by omega) hf he hbl (by omega)).reg fun g F w z=>fin g F w z (NE hfk h3)
   ·rw [OJ hfk h3]
    refine(aH (p:=p) (Y:=Y) hn' hls h1 h2 hyes hk hat hln (by omega) (by omega) hf he hbl (by omega)).reg fun g F w z=>?_
    simp only [List.cons_append,List.nil_append] at z
    have z0:=AS (show Gv _ [Aa g.2.1 g.2.2 1 5 (eU .u8 (w:=8)) ((e.b.take (r.at_.toNat+r.len.toNat)).drop r.at_.toNat)] _ from Gu) z
    obtain⟨gr,e1,z1⟩:=fB (rp:=⟨5,[],(e.b.take (r.at_.toNat+r.len.toNat)).drop r.at_.toNat⟩) rfl z0
    refine⟨gr,by rw [e1],?_⟩
    simp only [List.cons_append,List.nil_append] at z1 ⊢
    have z2:=AS (show Gv _ [cl p 24 [.int .i64 room,.int .i64 t,sl g.1.1.2.1 g.1.1.1.length g.1.1.2.2],Aa g.1.1.2.1 g.1.1.2.2 19 83 BH g.1.1.1,star (CQ 5 44) g.1.1.1] (gr.X::Y::F) from Gv.cons (Ext.there Ext.here) (Gv.cons (Ext.there Ext.here) (Gv.cons (Ext.there Ext.here) Gv.nil))) z1
    have z3:=E5 (tS:=24) (s:=⟨t,(BW t (kms.map KM.e))⟩) g.1.1.1 g.1.1.2.1 g.1.1.2.2 g.1.2 z2
    exact AS (show Gv _ [Du 24 83 5 44 p room ⟨t,(BW t (kms.map KM.e))⟩,Y,gr.X] F from Gu) z3
theorem Xr{p:Nat}{room t:Int}{s s2:Sv1}{r:Rq}{Y:Ao}{rp:Rp}{er:Int}(hw:Wf room s)(hB:Sv [Y] r.b.v 1 (eU .u8 (w:=8)) r.b.l r.b.ao r.b.cap)(hn:s.l.length<=100000000)(hc:Eg room s t r=(rp,er,s2)):
  Ct Tryz.prog 52 [.pointer (some ⟨p,0,none⟩),.int .i64 t,.agg (CP r).toArray] [Du 24 83 5 44 p room s,Y] (fun g:RpG eI rp=>.tuple #[g.v,.int .i64 er]) (fun g=> [Du 24 83 5 44 p room s2,Y,g.X]):=by
 have non: ∀(rp:Rp) (er:Int) (s2:Sv1),rp.ns= [] ->rp.bs= [] ->Ct Tryz.prog 52 [.pointer (some ⟨p,0,none⟩),.int .i64 t,.agg (CP r).toArray] [Du 24 83 5 44 p room s,Y] (fun _:Unit=>.tuple #[.agg [.int .u8 rp.kind,.slice none 0 0,.slice none 0 0].toArray,.int .i64 er]) (fun _=> [Du 24 83 5 44 p room s2,Y]) ->Ct Tryz.prog 52 [.pointer (some ⟨p,0,none⟩),.int .i64 t,.agg (CP r).toArray] [Du 24 83 5 44 p room s,Y] (fun g:RpG eI rp=>.tuple #[g.v,.int .i64 er]) (fun g=> [Du 24 83 5 44 p room s2,Y,g.X]):=fun rp er s2 e1 e2 h=>h.reg fun g F w z=>by
  obtain⟨gr,e3,z1⟩:=TF e1 e2 z
  refine⟨gr,by rw [e3],?_⟩
  exact AS (show Gv _ [Du 24 83 5 44 p room s2,Y,gr.X] F from Gv.cons (Ext.there Ext.here) (Gv.cons (Ext.there Ext.here) (Gv.cons Ext.here Gv.nil))) z1
 have nss: ∀(k:Int) (ns:List Int) (s2:Sv1),Ct Tryz.prog 52 [.pointer (some ⟨p,0,none⟩),.int .i64 t,.agg (CP r).toArray] [Du 24 83 5 44 p room s,Y] (fun g:Option Nat × Nat=>.tuple #[.agg [.int .u8 k,sl g.1 ns.length g.2,.slice none 0 0].toArray,.int .i64 0]) (fun g=> [Du 24 83 5 44 p room s2,Y,Aa g.1 g.2 1 3 eI ns]) ->Ct Tryz.prog 52 [.pointer (some ⟨p,0,none⟩),.int .i64 t,.agg (CP r).toArray] [Du 24 83 5 44 p room s,Y] (fun g:RpG eI ⟨k,ns,[]⟩=>.tuple #[g.v,.int .i64 0]) (fun g=> [Du 24 83 5 44 p room s2,Y,g.X]):=fun k ns s2 h=>h.reg fun g F w z=>by
  simp only [List.cons_append,List.nil_append] at z
  have z0:=AS (show Gv _ [Aa g.1 g.2 1 3 eI ns] (Du 24 83 5 44 p room s2::Y::F) from Gv.cons (Ext.there (Ext.there Ext.here)) Gv.nil) z
  obtain⟨gr,e3,z1⟩:=fA (rp:=⟨k,ns,[]⟩) rfl z0
  refine⟨gr,by rw [e3],?_⟩
  exact AS (show Gv _ [Du 24 83 5 44 p room s2,Y,gr.X] F from Gv.cons (Ext.there Ext.here) (Gv.cons (Ext.there Ext.here) (Gv.cons Ext.here Gv.nil))) z1
 unfold Eg at hc
 by_cases h:t<s.tick\/1099511627776<t
 ·rw [if_pos h] at hc
  cases hc
  exact non _ _ _ rfl rfl (dZ h)
 ·rw [if_neg h] at hc
  have h1:s.tick<=t:=by omega
  have h2:t<=1099511627776:=by omega
  by_cases h3:(IE r && C2 t r)=true
  ·rw [if_pos h3] at hc
   have hm:=KB (Bool.and_eq_true_iff.1 h3).1
   rcases hm.kind with hk|hk|hk|hk|hk
   ·rw [c7 hk] at hc
    cases hc
    rw [<-Hq]
    exact nss 1 _ _ (Xt hw hn h1 h2 h3 hk)
   ·rw [c6 hk] at hc
    cases hq:E2 room (BW t s.l) r with
    |mk rp2 l2=>
     rw [hq] at hc
     cases hc
     have hrp:=UJ hq
     exact non _ _ _ hrp.1 hrp.2 (V4 hw hn h1 h2 h3 hk hB hm.len hq)
   ·rw [bw hk] at hc
    cases hc
    exact V3 hw hn h1 h2 h3 hk
   ·rw [bu hk] at hc
    cases hc
    exact nss 1 _ _ (aD hw hn h1 h2 h3 hk)
   ·rw [br hk] at hc
    cases hc
    exact nss 1 _ _ (aF hw hn h1 h2 h3 hk)
  ·rw [if_neg h3] at hc
   cases hc
   exact non _ _ _ rfl rfl (aG hw hn h1 h2 (by simpa using h3))
end Go.Proofs.YtoakfknnaiapiaaGreat
namespace Go.Proofs.YtoakfknnaiapiaaGreat
open Go.RowKit Go.SL Go.ShM Go.SvM
set_option maxHeartbeats 1000000
set_option maxRecDepth 20000
set_option linter.all false

theorem XH(ix:Ix)(n:Int):Er [(0,16),(16,1),(17,1),(18,1)] [(0,aU .u8 ix.l),(1,.int .i64 n)] [.int .u8 0,.int .u8 0,.int .u8 0,.int .u8 0,.int .u8 0,.int .u8 0,.int .u8 0,.int .u8 0,.int .u8 0,.int .u8 0,.int .u8 0,.int .u8 0,.int .u8 0,.int .u8 0,.int .u8 0,.int .u8 0,.int .i64 0,.slice none 0 0,.slice none 0 0]=some (FM ix n (.slice none 0 0) (.slice none 0 0)):=by
 obtain⟨l,hl⟩:=ix
 obtain⟨a0,a1,a2,a3,a4,a5,a6,a7,a8,a9,a10,a11,a12,a13,a14,a15,rfl⟩:=Qp l hl
 kernel_rfl
theorem XI(ix:Ix)(n:Int)(a a':Option Nat)(m c m' c':Nat):Er [(0,16),(16,1),(17,1),(18,1)] [(0,aU .u8 ix.l),(1,.int .i64 n),(2,sl a m c),(3,sl a' m' c')] [.int .u8 0,.int .u8 0,.int .u8 0,.int .u8 0,.int .u8 0,.int .u8 0,.int .u8 0,.int .u8 0,.int .u8 0,.int .u8 0,.int .u8 0,.int .u8 0,.int .u8 0,.int .u8 0,.int .u8 0,.int .u8 0,.int .i64 0,.slice none 0 0,.slice none 0 0]=some (FM ix n (sl a m c) (sl a' m' c')):=by
 obtain⟨l,hl⟩:=ix
 obtain⟨a0,a1,a2,a3,a4,a5,a6,a7,a8,a9,a10,a11,a12,a13,a14,a15,rfl⟩:=Qp l hl
 kernel_rfl
theorem Ra{m:Md}{Q:Exit ->Act ->World ->Prop}{w0:World}{n:Nat}{c:Code}{L:List (Nat × Value)}{A:List Ao}(k:WC Tryz.prog m Q w0 n c L (Aa none 0 19 83 BH []::A)):WC Tryz.prog m Q w0 n c L A:=Cz (fun _ h=>BO h) k
theorem TU{kvs:List KV}{i:Nat}{k:KV}{D:List KM}{x:KM}(h:kvs[i]? =some k)(hD:D.map KM.e=(kvs.take i).map KV.kp)(hx:x.e=k.kp):(D++ [x]).map KM.e=(kvs.take (i+1)).map KV.kp:=by
 rw [BZ h,List.map_append,List.map_append,hD,List.map_cons,List.map_cons,hx];rfl

theorem NJ{X:Ao}{v:Value}{kvs:List KV}{ao:Option Addr}{cap:Nat}{room tick:Int}(hV:Sv [X] v 19 EC kvs ao cap)(hOK: ∀k∈kvs,Lh X k)(hn:kvs.length<=100000000)(hbb: ∀k∈kvs,k.b.l.length<=900000000000)(hlb: ∀k∈kvs,k.ls.l.length<=900000000000):Ct Tryz.prog 29 [(.agg ([.int .i64 room,.int .i64 tick,v]:List Value).toArray)] [X] (fun g: {g:List KM × Option Nat × Nat // g.1.map KM.e=kvs.map KV.kp} =>(.agg ([.int .i64 room,.int .i64 tick,sl g.1.2.1 g.1.1.length g.1.2.2]:List Value).toArray)) (fun g=> [X,Aa g.1.2.1 g.1.2.2 19 83 BH g.1.1,star (CQ 5 44) g.1.1]):=by
 refine AY (n:=58) Tryz.func29 I I I fun F w0 Q hret hnorm hp=>?_
 change WC _ _ _ _ _ _ _ (_::F)
 refine A4 fun _ K1=>AB (Ay (xs:= [.int .i64 room,.int .i64 tick,v]) I I) I I I ?_
 rintro _ _ ⟨b1,rfl,rfl⟩
 refine AB (AZ MJ) I I I ?_
 rintro _ _ ⟨b2,rfl,rfl⟩
 refine A3 K1<|A4 fun _ K2=>A2 (A1 I Dx) I<|A2 (A6 I BF) I ?_
 refine A2 (A1 I Di) I<|A2 (A6 I BF) I ?_
 refine A2 (AL (v:=(.agg ([.int .i64 room,.int .i64 tick,.slice none 0 0]:List Value).toArray)) (Ah TI I) I) I<|AB (AZ MJ) I I I ?_
 rintro _ _ ⟨bo,rfl,rfl⟩
 refine AX (AV (ys:= [.int .i64 room,.int .i64 tick,.slice none 0 0]) I I Gx (h1:=by simp [BD,Value.cells,Value.oneCell',sl]) (hr:=I)) I I ?_
 rintro _ _ rfl
 refine A3 K2<|A7 fun _ K3=>A4 fun _ K4=>wA I I<|A3 K4<|AG<|Ra ?_
 refine Gq (CQ 5 44) ?_
 rw [show cl bo 24 [.int .i64 room,.int .i64 tick,.slice none 0 0]=cl bo 24 [.int .i64 room,.int .i64 tick,sl none ([]:List KM).length 0] from rfl]
 refine Ak (σ:=Nat × (List KM) × (Option Nat) × Nat) (fun ⟨i,D,a,c⟩=> [(4,.int .i64 ((i:Nat):Int))]) (fun ⟨i,D,a,c⟩=> [cl bo 24 [.int .i64 room,.int .i64 tick,sl a D.length c],Aa a c 19 83 BH D,star (CQ 5 44) D]) (fun ⟨i,D,a,c⟩=>i<=kvs.length/\D.map KM.e=(kvs.take i).map KV.kp) (fun ⟨i,D,a,c⟩=>kvs.length -i) ⟨0,[],none,0⟩ [1,2,3,57] Cw D8 ?_ ?_ Sub.refl ?_
 ·exact⟨Nat.zero_le _,rfl⟩
 ·(try dsimp only);exact(Wk.cons Ch Wk.nil)
 rintro⟨i,D,a,c⟩ ⟨hi,hD⟩ K5 K5
 simp only [List.cons_append,List.nil_append]
 refine A7 fun _ K6=>A4 fun _ K7=>wM I I<|A2 (A1 I BB) I<|A2 (A6 I CL (v:=v)) I<|A2 (Al I I BV (hA:=hV)) I ?_
 refine A2 (An I I) I<|A3 K7<|AH I (fun hc0=>?_) (fun hc0=>?_)
 ·try simp only [dz] at hc0
  obtain⟨k,hk⟩: ∃k,kvs[i]? =some k:=⟨_,List.getElem?_eq_getElem (by omega)⟩
  have hkO:=hOK k (List.mem_of_getElem? hk)
  have hk1:=hbb k (List.mem_of_getElem? hk)
  have hk2:=hlb k (List.mem_of_getElem? hk)
  have hDl:D.length=i:=by have q:=congrArg List.length hD;rw [List.length_map,List.length_map,List.length_take] at q;omega
  refine Cz (fun w h=>BO (e:=1) (T:=5) (f:=(eU .u8 (w:=8))) (BO (e:=2) (T:=44) (f:=C9) h)) ?_
  refine AA<|A5 K6<|A7 fun _ K8=>AG<|A7 fun _ K9=>BC CE [cl b1 24 [.int .i64 room,.int .i64 tick,v],X] (fun i=>([2,2,2,2,2,2,2,2,2,2,2,2,2,1,1]:List Nat).getD i 0) ?_
  refine jP 0 I (A1 I BB) I hp<|jT 1 I (A6 I CL (v:=v)) I hp AQ<|jM 2 I I I hp<|jP 3 I (AO i I I BV C6 (hA:=hV) (hi:=by omega)) I hp ?_
  refine jP 4 I (A1 I FO) I hp<|jT 5 I (I2 (f:=EC) (i:=i) (j:=0) (y:=k) (vs:=k.ix.l.flatMap (eU .u8)) I Cv (hA:=hV) (hl:=hk) (hv:=L8 k) (hjk:=by rw [H8];omega)) I hp AQ ?_
  refine jP 6 I (A1 I BB) I hp<|jT 7 I (A6 I CL (v:=v)) I hp AQ<|jM 8 I I I hp<|jP 9 I (AO i I I BV C6 (hA:=hV) (hi:=by omega)) I hp ?_
  refine jP 10 I (A1 I E4) I hp<|jT 11 I (Af (f:=EC) (i:=i) (j:=16) (y:=k) I BF (hA:=hV) (hl:=hk) (hv:=ES k)) I hp AQ ?_
  refine jP 12 I (AL (v:=.agg (FM k.ix k.num (.slice none 0 0) (.slice none 0 0)).toArray) (Ah Mi I (hf:=XH _ _)) I) I hp ?_
  refine jO 13<|B7 I (AZ Ey) I I I I ?_
  rintro _ _ ⟨b5,rfl,rfl⟩
  refine⟨(fun _=>Bh),?_⟩
  refine jO 14<|Cg I (AV (ys:=(FM k.ix k.num (.slice none 0 0) (.slice none 0 0))) I I C6 (h1:=J4 I I) (hv:=by simpa [Value.cells] using Da _ _ _ _) (hr:=by simp [Value.cells])) I I I ?_
  rintro _ _ rfl
  refine⟨(fun _=>Bh),?_⟩
  refine jD<|A5 K9<|A7 fun _ K10=>BC CE [cl b1 24 [.int .i64 room,.int .i64 tick,v],X,cl b5 83 (FM k.ix k.num (.slice none 0 0) (.slice none 0 0))] (fun i=>([2,2,2,2,2,2,2,2,1,2,0]:List Nat).getD i 0) ?_
  refine jP 0 I (A1 I C4) I hp<|jT 1 I (A6 I Bg (v:=.slice none 0 0) (hi:=O7 _ _ _ _)) I hp AQ ?_
  refine jP 2 I (A1 I BB) I hp<|jT 3 I (A6 I CL (v:=v)) I hp AQ<|jM 4 I I I hp<|jP 5 I (AO i I I BV C6 (hA:=hV) (hi:=by omega)) I hp ?_
  refine jP 6 I (A1 I C4) I hp<|jT 7 I (Af (f:=EC) (i:=i) (j:=17) (y:=k) I Bg (hA:=hV) (hl:=hk) (hv:=GL k)) I hp AQ ?_
  refine jO 8<|B7 I (E6 (f:=(eU .u8 (w:=8))) (Em .u8) I I BQ BQ Xk (a:=none) (cap:=0) (l:= []) (l2:=k.b.l) (hS:=hkO.1) (hb:=by rw [List.length_nil];omega)) I I I I ?_
  rintro _ _ ⟨a39,cap39,rfl,rfl⟩
  rw [List.nil_append,show ([]:List B8).length+k.b.l.length=k.b.l.length from Nat.zero_add _]
  refine⟨(fun _=>Bh),?_⟩
  refine jP 9 I (A1 I C4) I hp<|jO 10<|EN I (Ar (ys:=(FM k.ix k.num ((sl a39 k.b.l.length cap39)) (.slice none 0 0))) I I Gi (hl:=by rw [Nat.blt_eq,Da];omega) (hr:=N2 _ _ _ _ _)) I ?_
  rintro _ _ rfl
  refine jD<|A5 K10<|A7 fun _ K11=>BC CE [cl b1 24 [.int .i64 room,.int .i64 tick,v],X,cl b5 83 (FM k.ix k.num ((sl a39 k.b.l.length cap39)) (.slice none 0 0))] (fun i=>([2,2,2,2,2,2,2,2,1,2,0]:List Nat).getD i 0) ?_
  refine jP 0 I (A1 I Ca) I hp<|jT 1 I (A6 I EP (v:=.slice none 0 0) (hi:=Je _ _ _ _)) I hp AQ ?_
  refine jP 2 I (A1 I BB) I hp<|jT 3 I (A6 I CL (v:=v)) I hp AQ<|jM 4 I I I hp<|jP 5 I (AO i I I BV C6 (hA:=hV) (hi:=by omega)) I hp ?_
  refine jP 6 I (A1 I Ca) I hp<|jT 7 I (Af (f:=EC) (i:=i) (j:=18) (y:=k) I EP (hA:=hV) (hl:=hk) (hv:=GE k)) I hp AQ ?_
  refine jO 8<|B7 I (E6 (f:=C9) encLs I I Bw Bw Lg (a:=none) (cap:=0) (l:= []) (l2:=k.ls.l) (hS:=hkO.2) (hb:=by rw [List.length_nil];omega)) I I I I ?_
  rintro _ _ ⟨a49,cap49,rfl,rfl⟩
  rw [List.nil_append,show ([]:List Ls).length+k.ls.l.length=k.ls.l.length from Nat.zero_add _]
  refine⟨(fun _=>Bh),?_⟩
  refine jP 9 I (A1 I Ca) I hp<|jO 10<|EN I (Ar (ys:=(FM k.ix k.num ((sl a39 k.b.l.length cap39)) ((sl a49 k.ls.l.length cap49)))) I I IC (hl:=by rw [Nat.blt_eq,Da];omega) (hr:=Lx _ _ _ _ _)) I ?_
  rintro _ _ rfl
  rw [show (FM k.ix k.num ((sl a39 k.b.l.length cap39)) ((sl a49 k.ls.l.length cap49)))=BH (⟨⟨k.ix,k.num,k.b.l,k.ls.l⟩,a39,cap39,a49,cap49⟩:KM) from rfl]
  refine jD<|A5 K11<|AD<|JD 5 44 D ⟨k.ix,k.num,k.b.l,k.ls.l⟩ a39 cap39 a49 cap49 ?_
  refine A2 (A1 I BB) I<|A2 (A6 I CL (v:=sl a D.length c)) I<|A2 (AI (vs:=BH (⟨⟨k.ix,k.num,k.b.l,k.ls.l⟩,a39,cap39,a49,cap49⟩:KM)) I EM (hl:=by rw [Db];omega) (hi:=EK _)) I ?_
  refine AB (Br (xs:=BH (⟨⟨k.ix,k.num,k.b.l,k.ls.l⟩,a39,cap39,a49,cap49⟩:KM)) I BV Ey C6 (hl:=encKM.len _)) I I I ?_
  rintro _ _ ⟨b54,rfl,rfl⟩
  refine AB (B6 (f:=BH) encKM (⟨⟨k.ix,k.num,k.b.l,k.ls.l⟩,a39,cap39,a49,cap49⟩:KM) I I BV BV Ia) I I I ?_
  rintro _ _ ⟨a55,cap55,rfl,rfl⟩
  rw [show D.length+1=(D++ [(⟨⟨k.ix,k.num,k.b.l,k.ls.l⟩,a39,cap39,a49,cap49⟩:KM)]).length from by rw [List.length_append];rfl]
  refine A2 (A1 I BB) I<|AX (Ar (ys:= [.int .i64 room,.int .i64 tick,sl a55 (D++ [(⟨⟨k.ix,k.num,k.b.l,k.ls.l⟩,a39,cap39,a49,cap49⟩:KM)]).length cap55]) I I La (hr:=I)) I I ?_
  rintro _ _ rfl
  refine AW<|A5 K8<|AD<|wM I I<|A2 (AN (j:=1) I I) I<|wA I I<|AW<|Az (K5 ⟨i+1,D++ [(⟨⟨k.ix,k.num,k.b.l,k.ls.l⟩,a39,cap39,a49,cap49⟩:KM)],a55,cap55⟩ (⟨by (try dsimp only);omega,TU hk hD I⟩) (by (try dsimp only);omega))
 try simp only [dz] at hc0
 obtain rfl:i=kvs.length:=by omega
 rw [List.take_length] at hD
 refine Aj<|A5 K3<|A4 fun _ K12=>A2 (AI (vs:= [.int .i64 room,.int .i64 tick,sl a D.length c]) I Fv) I<|AX (AV (ys:= [.int .i64 room,.int .i64 tick,sl a D.length c]) I I Gx (h1:=by simp [BD,Value.cells,Value.oneCell',sl]) (hr:=I)) I I ?_
 rintro _ _ rfl
 refine A3 K12<|AK ?_
 exact hret.gf ⟨(D,a,c),hD⟩ (Fl rfl rfl Fv)
end Go.Proofs.YtoakfknnaiapiaaGreat
namespace Go.Proofs.YtoakfknnaiapiaaGreat
open Go.RowKit Go.SL Go.ShM Go.SvM
set_option maxHeartbeats 1000000
set_option maxRecDepth 20000
set_option linter.all false
theorem e9:DF Tryz.prog 23=true:=by kernel_rfl
theorem Y8:DF Tryz.prog 33=true:=by kernel_rfl
theorem dB:Zo Tryz.prog 3 5=some .u8:=by kernel_rfl
theorem KC{k i:Nat}(hk:k<=10000000000000:=by omega)(hi:i<=10000000000000:=by omega):Ct Tryz.prog 33 [.int .i64 ((k:Nat):Int),.int .i64 ((i:Nat):Int)] [] (fun _:Unit=>.int .u8 (((Ge k i).toNat:Nat):Int)) (fun _=> []):=by
 refine AY (n:=12) Tryz.func33 I I I fun F w0 Q hret hnorm hp=>?_
 change WC _ _ _ _ _ _ _ (F)
 refine A4 fun _ K1=>wA I I<|A3 K1<|A4 fun _ K2=>wM I I<|A2 (ET (i:=151) I I) I ?_
 refine wM I I<|A2 (ET (i:=7) I I) I ?_
 refine A2 (AN I I) I<|A2 (AN (j:=1) I I) I<|A2 (LI I dB (h':=uk8)) I ?_
 refine wA I I<|A3 K2<|AK ?_
 exact hret.gf () (BR rfl rfl)

theorem P1{X:Ao}{v:Value}{l:List B8}{ao:Option Addr}{cap:Nat}(hS:Sv [X] v 1 (eU .u8 (w:=8)) l ao cap:=by assumption)(hl:l.length<=900000000000:=by omega):Ct Tryz.prog 23 [v] [X] (fun g:Option Nat × Nat=>sl g.1 (DC l).length g.2) (fun g=> [X,Aa g.1 g.2 1 5 (eU .u8) (DC l)]):=by
 refine AY (n:=32) Tryz.func23 I I I fun F w0 Q hret hnorm hp=>?_
 change WC _ _ _ _ _ _ _ (_::F)
 refine A4 fun _ K1=>A2 (Ag (v:=sl none 0 0) I) I<|A3 K1<|A4 fun _ K2=>A2 (Ag (v:=sl none 0 0) I) I<|CJ (eU .u8 (w:=8)) 1 5 ?_
 refine A3 K2<|A7 fun _ K3=>A4 fun _ K4=>wA I I<|A3 K4<|AG ?_
 rw [show ([]:List B8)=l.take 0 from rfl]
 refine Ak (σ:=Nat × (Option Nat) × Nat) (fun ⟨i',a,c⟩=> [(3,sl a (l.take i').length c),(4,.int .i64 ((i':Nat):Int))]) (fun ⟨i',a,c⟩=> [Aa a c 1 5 (eU .u8) (l.take i')]) (fun ⟨i',a,c⟩=>i'<=l.length) (fun ⟨i',a,c⟩=>l.length -i') ⟨0,none,0⟩ [0,2,5,19,20,21,22,23,24,25,26,27,28,29,30,31] Cw D8 ?_ ?_ Sub.refl ?_
 ·exact Nat.zero_le _
 ·(try dsimp only);exact(Wk.cons Ch (Wk.cons Ch Wk.nil))
 rintro⟨i',a,c⟩ hi K5 K5
 simp only [List.cons_append,List.nil_append]
 have htl:=List.length_take (i:=i') (l:=l)
 refine A7 fun _ K6=>A4 fun _ K7=>wM I I<|wM I I<|A2 (Al I I BQ) I ?_
 refine A2 (An I I) I<|A3 K7<|AH I (fun hc0=>?_) (fun hc0=>?_)
 ·try simp only [dz] at hc0
  refine AA<|A5 K6<|A7 fun _ K8=>AG<|AD<|wM I I<|wM I I<|wM I I<|A2 (AO _ I I BQ Ki) I ?_
  refine A2 (Re I Vq) I ?_
  refine AB (Br (xs:=eU .u8 (l.getD i' 0#8)) I BQ gY Ki) I I I ?_
  rintro _ _ ⟨b17,rfl,rfl⟩
  refine AB (B6 (f:=(eU .u8 (w:=8))) (Em .u8) (l.getD i' 0#8) I I BQ BQ Xk) I I I ?_
  rintro _ _ ⟨a18,cap18,rfl,rfl⟩
  rw [UF 0#8 (by omega),UG (by omega)]
  refine wA I I<|AW<|A5 K8<|AD<|wM I I<|A2 (AN (j:=1) I I) I<|wA I I<|AW<|Az (K5 ⟨i'+1,a18,cap18⟩ (by dsimp only;omega) (by dsimp only;omega))
 try simp only [dz] at hc0
 obtain rfl:i'=l.length:=by omega
 rw [List.take_length]
 rw [show Aa a c 1 5 (eU .u8) l=Aa a c 1 5 (eU .u8) (l++D9 (Ge 0) l.length 0) from by simp [D9]]
 refine Aj<|A5 K3<|A7 fun _ K9=>A4 fun _ K10=>wA I I<|A3 K10<|AG ?_
 have hl0:l++D9 (Ge 0) l.length 0=l:=by simp [D9]
 refine Ak (σ:=Nat × (Option Nat) × Nat) (fun ⟨j,a2,c2⟩=> [(3,sl a2 (l.length+j) c2),(5,.int .i64 ((j:Nat):Int))]) (fun ⟨j,a2,c2⟩=> [Aa a2 c2 1 5 (eU .u8) (l++D9 (Ge 0) l.length j)]) (fun ⟨j,a2,c2⟩=>j<=70) (fun ⟨j,a2,c2⟩=>70 -j) ⟨0,a,c⟩ [0,2,31] Cw D8 ?_ ?_ Sub.refl ?_
 ·exact Nat.zero_le _
 ·(try dsimp only);exact(Wk.cons Ch (Wk.cons Ch Wk.nil))
 rintro⟨j,a2,c2⟩ hj K11 K11
 simp only [List.cons_append,List.nil_append]
 have hml:=BL (Ge 0) l.length j
 have hmj:(l++D9 (Ge 0) l.length j).length=l.length+j:=by rw [List.length_append,hml]
 refine A7 fun _ K12=>A4 fun _ K13=>wM I I<|A2 (An (j:=70) I I) I<|A3 K13<|AH I (fun hc1=>?_) (fun hc1=>?_)
 ·try simp only [dz] at hc1
  refine AA<|A5 K12<|A7 fun _ K14=>AG<|AD<|wM I I<|wM I I<|A2 (Al I I BQ) I ?_
  refine wM I I<|A2 (AN I I) I<|AB (AE Y8 I (hs:=KC (k:=0))) I I I ?_
  rintro _ _ ⟨⟨⟩,rfl,hA⟩
  simp only [ca] at hA
  subst hA
  refine AB (Br (xs:=eU .u8 (Ge 0 (l.length+j))) I BQ gY Ki) I I I ?_
  rintro _ _ ⟨b29,rfl,rfl⟩
  refine AB (B6 (f:=(eU .u8 (w:=8))) (Em .u8) (Ge 0 (l.length+j)) I I BQ BQ Xk) I I I ?_
  rintro _ _ ⟨a30,cap30,rfl,rfl⟩
  rw [hmj,List.append_assoc,QZ]
  refine wA I I<|AW<|A5 K14<|AD<|wM I I<|A2 (AN (j:=1) I I) I<|wA I I<|AW<|Az (K11 ⟨j+1,a30,cap30⟩ (by dsimp only;omega) (by dsimp only;omega))
 try simp only [dz] at hc1
 obtain rfl:j=70:=by omega
 rw [show l++D9 (Ge 0) l.length 70=DC l from rfl]
 have hll:=Hg l
 refine Aj<|A5 K9<|A4 fun _ K15=>wM I I<|wA I I<|A3 K15<|AK ?_
 exact hret.gfE (a2,c2) (BR rfl rfl) (by dsimp only;rw [hll])

theorem TW{X:Ao}{v v':Value}{l l':List B8}{ao ao':Option Addr}{cap cap':Nat}(hS:Sv [X] v 1 (eU .u8 (w:=8)) l ao cap:=by assumption)(hS':Sv [X] v' 1 (eU .u8 (w:=8)) l' ao' cap':=by assumption)(hl:l.length<=900000000000:=by omega)(hl':l'.length<=900000000000:=by omega):Ct Tryz.prog 25 [v,v'] [X] (fun _:Unit=>.bool (decide (l=DC l'))) (fun _=> [X]):=by
 refine AY (n:=9) Tryz.func25 I I I fun F w0 Q hret hnorm hp=>?_
 change WC _ _ _ _ _ _ _ (_::F)
 refine A4 fun _ K1=>wA I I<|A3 K1<|A4 fun _ K2=>wM I I<|wM I I<|AB (AE e9 I (hs:=P1 (hS:=hS'))) I I I ?_
 rintro _ _ ⟨⟨a7,cap7⟩,rfl,hA⟩
 simp only [ca] at hA
 subst hA
 refine Cl (fun w h=>B1 (a:=a7) (cap:=cap7) (e:=1) (T:=5) (f:=eU .u8 (w:=8)) (l:=(DC l')) Bf h) (fun hSwf=>?_)
 have hSw:Sv [Aa a7 cap7 1 5 (eU .u8) (DC l')] (sl a7 (DC l').length cap7) 1 (eU .u8 (w:=8)) (DC l') (a7.map fun g=>⟨g,0,none⟩) cap7:=BM (Em .u8 (w:=8)) hSwf.1 hSwf.2
 refine AB (AE aY I (hs:=Ct.un0 (Xs:= [Aa a7 cap7 1 5 (eU .u8) (DC l'),X]) (Mc (X:=F7 [Aa a7 cap7 1 5 (eU .u8) (DC l'),X]) (hS:=hS.pk Bf) (hS':=hSw.pk Bf)))) I I I ?_
 rintro _ _ ⟨⟨⟩,rfl,hA⟩
 simp only [ca] at hA
 subst hA
 refine wA I I<|A3 K2<|AK ?_
 exact hret.gf () (BR rfl rfl)

theorem Ot{l:List B8}{a:Option Nat}{cap:Nat}(hl:l.length<=900000000000:=by omega):Ct Tryz.prog 26 [sl a l.length cap] [Aa a cap 1 5 (eU .u8) l] (fun _:Unit=>.tuple #[]) (fun _=> [Aa a cap 1 5 (eU .u8) (QP l.length)]):=by
 refine AY (n:=15) Tryz.func26 I I I fun F w0 Q hret hnorm hp=>?_
 change WC _ _ _ _ _ _ _ (_::F)
 refine A4 fun _ K1=>wA I I<|A3 K1<|AG ?_
 rw [show Aa a cap 1 5 (eU .u8) l=Aa a cap 1 5 (eU .u8) (Nm (fun i=>Ge 7 (i+3)) l 0) from by rw [O0]]
 refine Ak (σ:=Nat) (fun i'=> [(2,.int .i64 ((i':Nat):Int))]) (fun i'=> [Aa a cap 1 5 (eU .u8) (Nm (fun i=>Ge 7 (i+3)) l i')]) (fun i'=>i'<=l.length) (fun i'=>l.length -i') (0) [0] Cw D8 ?_ ?_ Sub.refl ?_
 ·exact Nat.zero_le _
 ·(try dsimp only);exact(Wk.cons Ch Wk.nil)
 rintro i' hi K2 K2
 simp only [List.cons_append,List.nil_append]
 have hol:=J0 (fun i=>Ge 7 (i+3)) hi
 refine A7 fun _ K3=>A4 fun _ K4=>wM I I<|wM I I<|A2 (BA I I BQ) I<|A2 (An I I) I<|A3 K4<|AH I (fun hc0=>?_) (fun hc0=>?_)
 ·try simp only [dz] at hc0
  refine Cd (a:=a) Bf (by omega) (fun gb hgb hcp=>?_)
  subst hgb
  refine AA<|A5 K3<|A7 fun _ K5=>AG<|AD<|wM I I<|wM I I<|wM I I<|A2 (AN (j:=3) I I) I<|AB (AE Y8 I (hs:=KC (k:=7))) I I I ?_
  rintro _ _ ⟨⟨⟩,rfl,hA⟩
  simp only [ca] at hA
  subst hA
  refine A2 (AT _ I I BQ Ki) I ?_
  refine AX (Vf I I Ki) I I ?_
  rintro _ _ rfl
  rw [Iz (fun i=>Ge 7 (i+3)) (by omega)]
  refine AW<|A5 K5<|AD<|wM I I<|A2 (AN (j:=1) I I) I<|wA I I<|AW<|Az (K2 (i'+1) (by omega) (by omega))
 try simp only [dz] at hc0
 obtain rfl:i'=l.length:=by omega
 rw [J1]
 rw [show D9 (fun i=>Ge 7 (i+3)) 0 l.length=QP l.length from rfl]
 refine Aj ?_
 exact hnorm.go () (Ke rfl)

theorem aL{X:Ao}{v:Value}{l:List B8}{ao:Option Addr}{cap:Nat}(hS:Sv [X] v 1 (eU .u8 (w:=8)) l ao cap:=by assumption)(hl:l.length<=900000000000:=by omega):Ct Tryz.prog 44 [v] [X] (fun g:Option Nat × Nat=>sl g.1 l.length g.2) (fun g=> [X,Aa g.1 g.2 1 5 (eU .u8) l]):=by
 refine AY (n:=8) Tryz.func44 I I I fun F w0 Q hret hnorm hp=>?_
 change WC _ _ _ _ _ _ _ (_::F)
 have hn0:([]:List B8).length=0:=rfl
 refine A4 fun _ K1=>A2 (Ag (v:=sl none 0 0) I) I<|A3 K1<|A4 fun _ K2=>A2 (Ag (v:=sl none 0 0) I) I<|CJ (eU .u8 (w:=8)) 1 5 ?_
 refine A3 K2<|A4 fun _ K3=>wM I I<|wM I I<|AB (E6 (f:=(eU .u8 (w:=8))) (Em .u8) I I BQ BQ Xk (hS:=hS)) I I I ?_
 rintro _ _ ⟨a6,cap6,rfl,rfl⟩
 rw [show ([]:List B8)++l=l from rfl]
 simp only [List.length_nil,Nat.zero_add]
 refine wA I I<|A3 K3<|A4 fun _ K4=>wM I I<|wA I I<|A3 K4<|AK ?_
 exact hret.gf (a6,cap6) (BR rfl rfl)
end Go.Proofs.YtoakfknnaiapiaaGreat
/-
 Lists of numbers handed out,written over,longer ones made of them:in plain words,and what is owned. (Conditions:none;no program in sight.)
-/
set_option maxRecDepth 20000
namespace Go.ShM
open Go.SL Go.RowKit
theorem dN:Enc (Hz .i64) 1:=⟨fun _=>rfl,fun x v hv=>by simp [Hz] at hv;subst hv;rfl⟩
theorem at_Z{l:List Int}{i:Nat}(h:i<l.length):l[i]? =some (l.getD i 0):=by rw [List.getD_eq_getElem?_getD,List.getElem?_eq_getElem h];rfl
def mI(k i:Nat):Int:=((1000003*(k+1)+i:Nat):Int)
structure PI where
 a:Option Nat
 cap:Nat
 l:List Int
structure QI where
 a:Option Nat
 cap:Nat
 a':Option Nat
 cap':Nat
 n:Nat
 j:Nat
def No(p:PI):List Value:= [sl p.a p.l.length p.cap]
def LW(q:QI):List Value:= [sl q.a' (q.n+70) q.cap']
theorem bk:Enc No 1:=⟨fun _=>rfl,fun x v hv=>by simp [No,sl] at hv;subst hv;rfl⟩
theorem Tm:Enc LW 1:=⟨fun _=>rfl,fun x v hv=>by simp [LW,sl] at hv;subst hv;rfl⟩
def FP(T:TypeId)(p:PI):Ao:=Aa p.a p.cap 1 T (Hz .i64) p.l
def FQ(T:TypeId)(q:QI):Ao:=Jr q.a q.cap q.a' q.cap' 1 T (Hz .i64) (D9 (mI (q.j+1)) 0 q.n) (D9 (mI (q.j+1)) 0 (q.n+70))
def bX(k:Nat)(p:PI):PI:=⟨p.a,p.cap,D9 (mI (k+1)) 0 p.l.length⟩
def Pw(ps:List PI)(k:Nat):List PI:=ps.mapIdx fun j p=>if j<k then bX j p else p
theorem fK(ps:List PI):Pw ps 0=ps:=by
 unfold Pw
 apply List.ext_getElem?
 intro i
 rw [List.getElem?_mapIdx]
 cases ps[i]? <;>simp
theorem SV{ps:List PI}{k j:Nat}{p:PI}(h:ps[j]? =some p):(Pw ps k)[j]? =some (if j<k then bX j p else p):=by
 unfold Pw;rw [List.getElem?_mapIdx,h];rfl
theorem TM(ps:List PI)(k:Nat):(Pw ps k).length=ps.length:=by simp [Pw]
theorem ZV{ps:List PI}{k:Nat}{p:PI}(h:ps[k]? =some p):(Pw ps k).set k (bX k p)=Pw ps (k+1):=by
 have hk:=(List.getElem?_eq_some_iff.1 h).1
 apply List.ext_getElem?
 intro i
 rw [List.getElem?_set,TM]
 by_cases hi:k=i
 ·subst hi
  rw [if_pos rfl,if_pos hk,SV h,if_pos (by omega)]
 ·rw [if_neg hi]
  unfold Pw
  rw [List.getElem?_mapIdx,List.getElem?_mapIdx]
  cases ps[i]? with
  |none=>rfl
  |some x=>
   simp only [Option.map_some]
   by_cases h2:i<k
   ·rw [if_pos h2,if_pos (by omega)]
   ·rw [if_neg h2,if_neg (by omega)]
theorem ZW{ps:List PI}{j:Nat}{p:PI}(h:ps[j]? =some p):(Pw ps ps.length)[j]? =some (bX j p):=by
 rw [SV h,if_pos (List.getElem?_eq_some_iff.1 h).1]
def gj(ps:List PI)(qs:List QI):Prop:= ∀(j:Nat) (q:QI),qs[j]? =some q ->q.j=j/\q.a'≠none/\q.n+70<=q.cap'/\(q.a=none ->q.n=0)/\q.n<=q.cap/\ ∃p,ps[j]? =some p/\q.a=p.a/\q.cap=p.cap/\q.n=p.l.length
theorem bJ{ps:List PI} :gj ps []:=fun j q h=>by simp at h
theorem Ym{ps:List PI}{qs:List QI}{q:QI}{p:PI}(h:gj ps qs)(hp:ps[qs.length]? =some p)(hj:q.j=qs.length)(h1:q.a'≠none)(h2:q.n+70<=q.cap')(h3:q.a=none ->q.n=0)(h4:q.n<=q.cap)(h5:q.a=p.a)(h6:q.cap=p.cap)(h7:q.n=p.l.length):gj ps (qs++ [q]):=by
 intro j x hx
 rw [List.getElem?_append] at hx
 split at hx
 ·exact h j x hx
 ·rename_i hlt
  have:j -qs.length=0:=by
   have:=(List.getElem?_eq_some_iff.1 hx).1
   simp at this;omega
  rw [this] at hx
  simp at hx
  subst hx
  have e:j=qs.length:=by omega
  subst e
  exact⟨hj,h1,h2,h3,h4,p,hp,h5,h6,h7⟩
theorem Hr{α:Type}(g:Nat ->α)(n m:Nat):D9 g 0 n <+:D9 g 0 (n+m):=⟨D9 g n m,ZU g n m⟩
theorem Lp{α:Type}(g:Nat ->α)(n:Nat):D9 g 0 n++ [g n]=D9 g 0 (n+1):=by
 have:=QZ g 0 n
 rwa [Nat.zero_add] at this
section
variable {P : Program} {Q : Exit → Act → World → Prop} {m : Md} {w0 : World} {n : Nat} {c : Code} {L : List (Nat × Value)} {A R : List Ao} {α : Type}
theorem MF(F:α ->Ao)(l:List α)(k:Nat){x:α}(hx:l[k]? =some x)(K:WC P m Q w0 n c L (F x::star F (l.drop (k+1))::R))(hE:Ext A (star F (l.drop k)) R:=by repeat (first|with_reducible exact Ext.here|with_reducible apply Ext.there)):WC P m Q w0 n c L A:=
 Cz (fun w h=>by
  have h1:=AS hE h
  obtain⟨hlt,e⟩:=List.getElem?_eq_some_iff.1 hx
  rw [List.drop_eq_getElem_cons hlt,e] at h1
  exact DZ.1 h1) K
end
theorem Sx{α:Type}{a:Option Nat}{cap e:Nat}{T:TypeId}{f:α ->List Value}{l l':List α}(hE1:Enc f e)(hp:l <+:l')(hn:a=none ->l'= [])(hc:l'.length<=cap):Sv [Aa a cap e T f l'] (sl a l.length cap) e f l (a.map fun g=>⟨g,0,none⟩) cap:=
 (BM (a:=a) (cap:=cap) (T:=T) hE1 (fun h=>by have:=hn h;subst this;exact List.prefix_nil.1 hp) (Nat.le_trans hp.length_le hc)).imp fun _ h=>Hl (Pe hp) h
theorem eP{T:TypeId}{q:QI}(h1:q.a'≠none)(h2:q.n+70<=q.cap'):Sv [FQ T q] (sl q.a' (q.n+70) q.cap') 1 (Hz .i64) (D9 (mI (q.j+1)) 0 (q.n+70)) (q.a'.map fun g=>⟨g,0,none⟩) q.cap':=by
 have h:=Pj (a:=q.a) (cap:=q.cap) (a':=q.a') (cap':=q.cap') (T:=T) (l:=D9 (mI (q.j+1)) 0 q.n) (l':=D9 (mI (q.j+1)) 0 (q.n+70)) dN (fun e=>absurd e h1) (by rw [BL];exact h2)
 rw [BL] at h
 exact h
theorem eQ{T:TypeId}{q:QI}(h1:q.a=none ->q.n=0)(h2:q.n<=q.cap):Sv [FQ T q] (sl q.a q.n q.cap) 1 (Hz .i64) (D9 (mI (q.j+1)) 0 q.n) (q.a.map fun g=>⟨g,0,none⟩) q.cap:=by
 have h:=Pk (a:=q.a) (cap:=q.cap) (a':=q.a') (cap':=q.cap') (T:=T) (l:=D9 (mI (q.j+1)) 0 q.n) (l':=D9 (mI (q.j+1)) 0 (q.n+70)) dN (Hr _ _ _) (fun e=>by rw [h1 e];rfl) (by rw [BL];exact h2)
 rw [BL] at h
 exact h
end Go.ShM
/-
 Lists of things handed out,written over,longer ones made of them:in plain words,and what is owned,for things of any kind. (Conditions:none;no program in sight.)
-/
set_option maxRecDepth 20000
namespace Go.ShM
open Go.SL Go.RowKit
structure PG (α:Type) where
 a:Option Nat
 cap:Nat
 l:List α
def Xl{α:Type}(p:PG α):List Value:= [sl p.a p.l.length p.cap]
theorem bm{α:Type} :Enc (Xl (α:=α)) 1:=⟨fun _=>rfl,fun x v hv=>by simp [Xl,sl] at hv;subst hv;rfl⟩
def JK{α:Type}(T:TypeId)(e:Nat)(f:α ->List Value)(p:PG α):Ao:=Aa p.a p.cap e T f p.l
def U6{α:Type}(T:TypeId)(e:Nat)(f:α ->List Value)(g:Nat ->Nat ->α)(q:QI):Ao:=Jr q.a q.cap q.a' q.cap' e T f (D9 (g (q.j+1)) 0 q.n) (D9 (g (q.j+1)) 0 (q.n+70))
section
variable {α : Type} {g : Nat → Nat → α}
def Ld(g:Nat ->Nat ->α)(k:Nat)(p:PG α):PG α:=⟨p.a,p.cap,D9 (g (k+1)) 0 p.l.length⟩
def G4(g:Nat ->Nat ->α)(ps:List (PG α))(k:Nat):List (PG α):=ps.mapIdx fun j p=>if j<k then Ld g j p else p
theorem Wz(ps:List (PG α)):G4 g ps 0=ps:=by
 unfold G4
 apply List.ext_getElem?
 intro i
 rw [List.getElem?_mapIdx]
 cases ps[i]? <;>simp
theorem Lq{ps:List (PG α)}{k j:Nat}{p:PG α}(h:ps[j]? =some p):(G4 g ps k)[j]? =some (if j<k then Ld g j p else p):=by
 unfold G4;rw [List.getElem?_mapIdx,h];rfl
theorem Ms(ps:List (PG α))(k:Nat):(G4 g ps k).length=ps.length:=by simp [G4]
theorem Qa{ps:List (PG α)}{k:Nat}{p:PG α}(h:ps[k]? =some p):(G4 g ps k).set k (Ld g k p)=G4 g ps (k+1):=by
 have hk:=(List.getElem?_eq_some_iff.1 h).1
 apply List.ext_getElem?
 intro i
 rw [List.getElem?_set,Ms]
 by_cases hi:k=i
 ·subst hi
  rw [if_pos rfl,if_pos hk,Lq h,if_pos (by omega)]
 ·rw [if_neg hi]
  unfold G4
  rw [List.getElem?_mapIdx,List.getElem?_mapIdx]
  cases ps[i]? with
  |none=>rfl
  |some x=>
   simp only [Option.map_some]
   by_cases h2:i<k
   ·rw [if_pos h2,if_pos (by omega)]
   ·rw [if_neg h2,if_neg (by omega)]
theorem Qb{ps:List (PG α)}{j:Nat}{p:PG α}(h:ps[j]? =some p):(G4 g ps ps.length)[j]? =some (Ld g j p):=by
 rw [Lq h,if_pos (List.getElem?_eq_some_iff.1 h).1]
def Yn(ps:List (PG α))(qs:List QI):Prop:= ∀(j:Nat) (q:QI),qs[j]? =some q ->q.j=j/\q.a'≠none/\q.n+70<=q.cap'/\(q.a=none ->q.n=0)/\q.n<=q.cap/\ ∃p,ps[j]? =some p/\q.a=p.a/\q.cap=p.cap/\q.n=p.l.length
theorem Rf{ps:List (PG α)} :Yn ps []:=fun j q h=>by simp at h
theorem OY{ps:List (PG α)}{qs:List QI}{q:QI}{p:PG α}(h:Yn ps qs)(hp:ps[qs.length]? =some p)(hj:q.j=qs.length)(h1:q.a'≠none)(h2:q.n+70<=q.cap')(h3:q.a=none ->q.n=0)(h4:q.n<=q.cap)(h5:q.a=p.a)(h6:q.cap=p.cap)(h7:q.n=p.l.length):Yn ps (qs++ [q]):=by
 intro j x hx
 rw [List.getElem?_append] at hx
 split at hx
 ·exact h j x hx
 ·rename_i hlt
  have:j -qs.length=0:=by
   have:=(List.getElem?_eq_some_iff.1 hx).1
   simp at this;omega
  rw [this] at hx
  simp at hx
  subst hx
  have e:j=qs.length:=by omega
  subst e
  exact⟨hj,h1,h2,h3,h4,p,hp,h5,h6,h7⟩
end
theorem U1{α:Type}{T:TypeId}{e:Nat}{f:α ->List Value}{g:Nat ->Nat ->α}{q:QI}(hE:Enc f e)(h1:q.a'≠none)(h2:q.n+70<=q.cap'):Sv [U6 T e f g q] (sl q.a' (q.n+70) q.cap') e f (D9 (g (q.j+1)) 0 (q.n+70)) (q.a'.map fun g=>⟨g,0,none⟩) q.cap':=by
 have h:=Pj (a:=q.a) (cap:=q.cap) (a':=q.a') (cap':=q.cap') (T:=T) (l:=D9 (g (q.j+1)) 0 q.n) (l':=D9 (g (q.j+1)) 0 (q.n+70)) hE (fun e=>absurd e h1) (by rw [BL];exact h2)
 rw [BL] at h
 exact h
theorem U2{α:Type}{T:TypeId}{e:Nat}{f:α ->List Value}{g:Nat ->Nat ->α}{q:QI}(hE:Enc f e)(h1:q.a=none ->q.n=0)(h2:q.n<=q.cap):Sv [U6 T e f g q] (sl q.a q.n q.cap) e f (D9 (g (q.j+1)) 0 q.n) (q.a.map fun g=>⟨g,0,none⟩) q.cap:=by
 have h:=Pk (a:=q.a) (cap:=q.cap) (a':=q.a') (cap':=q.cap') (T:=T) (l:=D9 (g (q.j+1)) 0 q.n) (l':=D9 (g (q.j+1)) 0 (q.n+70)) hE (Hr _ _ _) (fun e=>by rw [h1 e];rfl) (by rw [BL];exact h2)
 rw [BL] at h
 exact h
def bW{α:Type}(g:Nat ->Nat ->α)(n:Nat):List α:=D9 (fun i=>g 7 (i+3)) 0 n
theorem Pd{α:Type}(z:α){l:List α}{i:Nat}(h:i<l.length):l[i]? =some (l.getD i z):=by rw [List.getD_eq_getElem?_getD,List.getElem?_eq_getElem h];rfl
end Go.ShM
/-
 Lists of lists lent out,in plain words,and what is owned of them. (Conditions:none;no program in sight.)
-/
set_option maxRecDepth 20000
namespace Go.ShM
open Go.SL Go.RowKit
structure LE where
 a:Option Nat
 cap:Nat
 L:List B8
 n:Nat
def ee(e:LE):List Value:= [sl e.a e.n e.cap]
theorem fX:Enc ee 1:=⟨fun _=>rfl,fun x v hv=>by simp [ee,sl] at hv;subst hv;rfl⟩
def gg(e:LE):Pt:=⟨e.L.take e.n,e.a.map (fun g=>⟨g,0,none⟩),e.cap⟩
def LOk(es:List LE):Prop:= ∀e∈es,e.n<=e.L.length/\e.a≠none/\e.L.length<=e.cap
theorem Va{α:Type}{A:List Ao}{v:Value}{f:α ->List Value}{g:α ->Pt}{es:List α}{ao:Option Addr}{cap:Nat}(h:Sv A v 1 f es ao cap)(hg: ∀e∈es,f e=fP (g e)):Sv A v 1 fP (es.map g) ao cap:=by
 refine⟨by rw [h.val,List.length_map],fun hne=>h.adr (fun e=>hne (by rw [e];rfl)),fun x hx=>rfl,by rw [List.length_map];exact h.le,fun w hs i x hx j u hu=>?_⟩
 rw [List.getElem?_map] at hx
 cases he:es[i]? with
 |none=>rw [he] at hx;cases hx
 |some e=>
  rw [he] at hx
  simp only [Option.map_some,Option.some.injEq] at hx
  subst hx
  rw [<-hg e (List.mem_of_getElem? he)] at hu
  exact h.cell w hs i e he j u hu
theorem dU{e:LE}(h:e.n<=e.L.length):ee e=fP (gg e):=by
 unfold ee fP gg Pt.v sl
 simp only [List.length_take,Nat.min_eq_left h]
def X9(ps:List Pt):List (List B8 × Nat):=ps.map fun p=>(DC p.l,p.l.length)
def gZ(es:List LE):List (List B8 × Nat):=es.map fun e=>(e.L,e.n)
def S6(k:Nat):List (List B8 × Nat):=(List.range k).map fun i=>([BitVec.ofNat 8 i,99#8],2)
theorem TE(es:List LE):(gZ es).length=es.length:=by simp [gZ]
structure LG where
 la:Option Nat
 lc:Nat
 ea:Option Nat
 ec:Nat
 es:List LE
 sp:List LE
def gW(ps:List Pt)(g:LG):Prop:=gZ g.es=X9 ps/\gZ g.sp=S6 70/\LOk g.es/\LOk g.sp
structure KOk (ps fs gs:List Pt):Prop where
 lf:fs.length=ps.length+70
 lg:gs.length=ps.length
 hd:(fs.take ps.length).map (·.l)=ps.map (·.l)
 ea: ∀(i:Nat) (p q:Pt),gs[i]? =some p ->ps[i]? =some q ->p.l=DC q.l
 sp: ∀(i:Nat) (p:Pt),i<70 ->fs[ps.length+i]? =some p ->p.l= [BitVec.ofNat 8 i,99#8]
theorem Ux(ps:List Pt):(X9 ps).length=ps.length:=by simp [X9]
theorem S5(k:Nat):(S6 k).length=k:=by simp [S6]
theorem ed{ps:List Pt}{g:LG}(h:gW ps g):g.es.length=ps.length/\g.sp.length=70:=by
 have h1:=congrArg List.length h.1
 have h2:=congrArg List.length h.2.1
 rw [TE,Ux] at h1
 rw [TE,S5] at h2
 exact⟨h1,h2⟩
def ovE(e:LE):LE:=⟨e.a,e.cap,QP e.L.length,e.n⟩
theorem dT{e:LE}(h:e.n<=e.L.length):ee e=fP (gg (ovE e)):=by
 rw [<-dU (e:=ovE e) (by show e.n<=(QP e.L.length).length;rw [Uo];exact h)];rfl
theorem SvM{T:TypeId}{ps:List Pt}{g:LG}(h:gW ps g)(f:(g.la=none ->g.es++g.sp= [])/\(g.es++g.sp).length<=g.lc):Sv [Aa g.la g.lc 1 T ee (g.es++g.sp)] (sl g.la ps.length g.lc) 1 fP ((g.es.map ovE).map gg) (g.la.map fun q=>⟨q,0,none⟩) g.lc:=by
 have h0:=Sx (T:=T) (a:=g.la) (cap:=g.lc) fX (List.prefix_append g.es g.sp) f.1 f.2
 rw [(ed h).1] at h0
 rw [List.map_map]
 exact Va h0 (fun e he=>dT (h.2.2.1 e he).1)
end Go.ShM
/-
 Lists of bytes handed out,written over,longer ones made of them:in plain words,and what is owned. (Conditions:none;no program in sight.)
-/
set_option maxRecDepth 20000
namespace Go.ShM
open Go.SL Go.RowKit
structure PB where
 a:Option Nat
 cap:Nat
 l:List B8
def Hj(p:PB):List Value:= [sl p.a p.l.length p.cap]
theorem RD:Enc Hj 1:=⟨fun _=>rfl,fun x v hv=>by simp [Hj,sl] at hv;subst hv;rfl⟩
def IH(T:TypeId)(p:PB):Ao:=Aa p.a p.cap 1 T (eU .u8 (w:=8)) p.l
def cO(T:TypeId)(q:QI):Ao:=Jr q.a q.cap q.a' q.cap' 1 T (eU .u8 (w:=8)) (D9 (Ge (q.j+1)) 0 q.n) (D9 (Ge (q.j+1)) 0 (q.n+70))
def Qd(k:Nat)(p:PB):PB:=⟨p.a,p.cap,D9 (Ge (k+1)) 0 p.l.length⟩
def ID(ps:List PB)(k:Nat):List PB:=ps.mapIdx fun j p=>if j<k then Qd j p else p
theorem cq(ps:List PB):ID ps 0=ps:=by
 unfold ID
 apply List.ext_getElem?
 intro i
 rw [List.getElem?_mapIdx]
 cases ps[i]? <;>simp
theorem Oy{ps:List PB}{k j:Nat}{p:PB}(h:ps[j]? =some p):(ID ps k)[j]? =some (if j<k then Qd j p else p):=by
 unfold ID;rw [List.getElem?_mapIdx,h];rfl
theorem Qc(ps:List PB)(k:Nat):(ID ps k).length=ps.length:=by simp [ID]
theorem X0{ps:List PB}{k:Nat}{p:PB}(h:ps[k]? =some p):(ID ps k).set k (Qd k p)=ID ps (k+1):=by
 have hk:=(List.getElem?_eq_some_iff.1 h).1
 apply List.ext_getElem?
 intro i
 rw [List.getElem?_set,Qc]
 by_cases hi:k=i
 ·subst hi
  rw [if_pos rfl,if_pos hk,Oy h,if_pos (by omega)]
 ·rw [if_neg hi]
  unfold ID
  rw [List.getElem?_mapIdx,List.getElem?_mapIdx]
  cases ps[i]? with
  |none=>rfl
  |some x=>
   simp only [Option.map_some]
   by_cases h2:i<k
   ·rw [if_pos h2,if_pos (by omega)]
   ·rw [if_neg h2,if_neg (by omega)]
theorem X1{ps:List PB}{j:Nat}{p:PB}(h:ps[j]? =some p):(ID ps ps.length)[j]? =some (Qd j p):=by
 rw [Oy h,if_pos (List.getElem?_eq_some_iff.1 h).1]
def bK(ps:List PB)(qs:List QI):Prop:= ∀(j:Nat) (q:QI),qs[j]? =some q ->q.j=j/\q.a'≠none/\q.n+70<=q.cap'/\(q.a=none ->q.n=0)/\q.n<=q.cap/\ ∃p,ps[j]? =some p/\q.a=p.a/\q.cap=p.cap/\q.n=p.l.length
theorem Yo{ps:List PB} :bK ps []:=fun j q h=>by simp at h
theorem Ve{ps:List PB}{qs:List QI}{q:QI}{p:PB}(h:bK ps qs)(hp:ps[qs.length]? =some p)(hj:q.j=qs.length)(h1:q.a'≠none)(h2:q.n+70<=q.cap')(h3:q.a=none ->q.n=0)(h4:q.n<=q.cap)(h5:q.a=p.a)(h6:q.cap=p.cap)(h7:q.n=p.l.length):bK ps (qs++ [q]):=by
 intro j x hx
 rw [List.getElem?_append] at hx
 split at hx
 ·exact h j x hx
 ·rename_i hlt
  have:j -qs.length=0:=by
   have:=(List.getElem?_eq_some_iff.1 hx).1
   simp at this;omega
  rw [this] at hx
  simp at hx
  subst hx
  have e:j=qs.length:=by omega
  subst e
  exact⟨hj,h1,h2,h3,h4,p,hp,h5,h6,h7⟩
theorem ay{T:TypeId}{q:QI}(h1:q.a'≠none)(h2:q.n+70<=q.cap'):Sv [cO T q] (sl q.a' (q.n+70) q.cap') 1 (eU .u8 (w:=8)) (D9 (Ge (q.j+1)) 0 (q.n+70)) (q.a'.map fun g=>⟨g,0,none⟩) q.cap':=by
 have h:=Pj (a:=q.a) (cap:=q.cap) (a':=q.a') (cap':=q.cap') (T:=T) (l:=D9 (Ge (q.j+1)) 0 q.n) (l':=D9 (Ge (q.j+1)) 0 (q.n+70)) (Em .u8 (w:=8)) (fun e=>absurd e h1) (by rw [BL];exact h2)
 rw [BL] at h
 exact h
theorem az{T:TypeId}{q:QI}(h1:q.a=none ->q.n=0)(h2:q.n<=q.cap):Sv [cO T q] (sl q.a q.n q.cap) 1 (eU .u8 (w:=8)) (D9 (Ge (q.j+1)) 0 q.n) (q.a.map fun g=>⟨g,0,none⟩) q.cap:=by
 have h:=Pk (a:=q.a) (cap:=q.cap) (a':=q.a') (cap':=q.cap') (T:=T) (l:=D9 (Ge (q.j+1)) 0 q.n) (l':=D9 (Ge (q.j+1)) 0 (q.n+70)) (Em .u8 (w:=8)) (Hr _ _ _) (fun e=>by rw [h1 e];rfl) (by rw [BL];exact h2)
 rw [BL] at h
 exact h
end Go.ShM
/-
 What is handed in:bytes as words of bp bits;a list of lists of bytes,each of which can be read,and how many bytes they are together. (Conditions:none;generic over the program.)
-/
namespace Go.SL
open Go.RowKit Go.ChangeShapes Go.WideShapes Go.ShM
section
variable {H : Type} {enc : TypeId × Value → H} {P : Program} {W : World} {base : Nat} {sp : Nat → Bool} {hd : Bool}
structure MeasS {H:Type} (m:DataW H ->Nat):Prop extends Meas m where
 sum: ∀ds rs,(ds.map m).sum<=m (.slice ds rs)
end
end Go.SL
/-
 What is handed in:lists of digests. (Conditions:none;generic over the program.)
-/
namespace Go.ShM
open Go.SL Go.RowKit Go.ChangeShapes Go.WideShapes
section
variable {H : Type} {enc : TypeId × Value → H} {P : Program} {W : World} {base : Nat} {sp : Nat → Bool} {hd : Bool}
theorem Js: ∀l:List Int,(∀i∈l,(Lit.int .u8 i).wf=true) ->l.map (Value.int .u8)=(l.map (BitVec.ofInt 8)).flatMap (eU .u8)
 | [],_=>rfl
 |i::l,h=>by
  have h0:=h i (by simp)
  rw [List.map_cons,List.map_cons,List.flatMap_cons,<-Js l (fun j hj=>h j (by simp [hj]))]
  have hb:0<=i/\i<256:=by simp [Lit.wf,IntKind.min,IntKind.max,IntKind.signed,IntKind.bits] at h0;omega
  have e2:((BitVec.ofInt 8 i).toNat:Int)=i:=by rw [BitVec.toNat_ofInt];omega
  unfold eU
  rw [e2];rfl
end
end Go.ShM
/-
 A script of calls of the digest's functions,in plain words,and as it is handed in. (Conditions:none;no program in sight.)
-/
set_option maxRecDepth 20000
namespace Go.ShM
open Go.SL Go.RowKit Go.ChangeShapes Go.WideShapes
structure OQ where
 call:Int
 ws:List Bv
 bs:List B8
 n:Int
 p:PPt
 hw:ws.length=8
 hb:bs.length=64
section
variable {H : Type} {enc : TypeId × Value → H} {P : Program} {W : World} {base : Nat} {sp : Nat → Bool} {hd : Bool}
end
end Go.ShM
namespace Go.Proofs.YtoakfknnaiapiaaGreat
open Go.RowKit Go.SL Go.ShM Go.SvM
set_option maxHeartbeats 1000000
set_option maxRecDepth 20000
set_option linter.all false
theorem aT:DF Tryz.prog 59=true:=by kernel_rfl
theorem fZ:el Tryz.prog 81=some (1,24):=by kernel_rfl
theorem Zn:Zo Tryz.prog 3 42=some .u32:=by kernel_rfl
theorem IK:Tryz.prog.underlying 84=some (.slice 81):=by kernel_rfl
theorem eh:zr Tryz.prog 81=some [.slice none 0 0]:=by kernel_rfl
def Cr(k i:Nat):Ls:=(BitVec.ofNat 32 (1000003*(k+1)),((i:Nat):Int))

theorem KD{k i:Nat}(hk:k<=5000000000000:=by omega)(hi:i<=10000000000000:=by omega):Ct Tryz.prog 59 [.int .i64 ((k:Nat):Int),.int .i64 ((i:Nat):Int)] [] (fun _:Unit=>.agg (C9 (Cr k i)).toArray) (fun _=> []):=by
 refine AY (n:=11) Tryz.func59 I I I fun F w0 Q hret hnorm hp=>?_
 change WC _ _ _ _ _ _ _ (F)
 refine A4 fun _ K1=>AB (AZ I9) I I I ?_
 rintro _ _ ⟨b4,rfl,rfl⟩
 refine A3 K1<|A4 fun _ K2=>wM I I<|A2 (AN (j:=1) I I) I<|A2 (ET (i:=1000003) I I) I ?_
 refine A2 (LI I Zn (h':=uk32)) I ?_
 refine wM I I<|A2 (AL (v:=.agg (C9 (Cr k i)).toArray) (Ah Mj I) I) I<|AX (AV (ys:=C9 (Cr k i)) I I DD (h1:=encLs.one (Cr k i)) (hv:=I) (hr:=I)) I I ?_
 rintro _ _ rfl
 refine A3 K2<|AK ?_
 exact hret.gf () (Fl rfl rfl EE)

theorem ZZ{i:Nat}(hi:i<=10000000000000:=by omega):Ct Tryz.prog 59 [.int .i64 7,.int .i64 ((i:Nat):Int)] [] (fun _:Unit=>.agg (C9 (Cr 7 i)).toArray) (fun _=> []):=KD (k:=7) (i:=i)

theorem Wg{l:List Ls}{a:Option Nat}{cap:Nat}(hl:l.length<=900000000000:=by omega):Ct Tryz.prog 48 [sl a l.length cap] [Aa a cap 2 44 C9 l] (fun _:Unit=>.tuple #[]) (fun _=> [Aa a cap 2 44 C9 (bW Cr l.length)]):=by
 refine AY (n:=15) Tryz.func48 I I I fun F w0 Q hret hnorm hp=>?_
 change WC _ _ _ _ _ _ _ (_::F)
 refine A4 fun _ K1=>wA I I<|A3 K1<|AG ?_
 rw [show Aa a cap 2 44 C9 l=Aa a cap 2 44 C9 (Nm (fun i=>Cr 7 (i+3)) l 0) from by rw [O0]]
 refine Ak (σ:=Nat) (fun i'=> [(2,.int .i64 ((i':Nat):Int))]) (fun i'=> [Aa a cap 2 44 C9 (Nm (fun i=>Cr 7 (i+3)) l i')]) (fun i'=>i'<=l.length) (fun i'=>l.length -i') (0) [0] Cw D8 ?_ ?_ Sub.refl ?_
 ·exact Nat.zero_le _
 ·(try dsimp only);exact(Wk.cons Ch Wk.nil)
 rintro i' hi K2 K2
 simp only [List.cons_append,List.nil_append]
 have hol:=J0 (fun i=>Cr 7 (i+3)) hi
 refine A7 fun _ K3=>A4 fun _ K4=>wM I I<|wM I I<|A2 (BA I I Bw) I<|A2 (An I I) I<|A3 K4<|AH I (fun hc0=>?_) (fun hc0=>?_)
 ·try simp only [dz] at hc0
  refine Cd (a:=a) Bf (by omega) (fun gb hgb hcp=>?_)
  subst hgb
  refine AA<|A5 K3<|A7 fun _ K5=>AG<|AD<|wM I I<|wM I I<|wM I I<|A2 (AN (j:=3) I I) I<|AB (AE aT I (hs:=ZZ (i:=i'+3))) I I I ?_
  rintro _ _ ⟨⟨⟩,rfl,hA⟩
  simp only [ca] at hA
  subst hA
  refine A2 (AT i' I I Bw DD (hj:=by omega)) I ?_
  refine AX (HL (Cr 7 (i'+3)) I I DD (i:=i') (h1:=encLs.one _)) I I ?_
  rintro _ _ rfl
  rw [Iz (fun i=>Cr 7 (i+3)) (by omega)]
  refine AW<|A5 K5<|AD<|wM I I<|A2 (AN (j:=1) I I) I<|wA I I<|AW<|Az (K2 (i'+1) (by omega) (by omega))
 try simp only [dz] at hc0
 obtain rfl:i'=l.length:=by omega
 rw [J1]
 rw [show D9 (fun i=>Cr 7 (i+3)) 0 l.length=bW Cr l.length from rfl]
 refine Aj ?_
 exact hnorm.go () (Ke rfl)

theorem VN{X:Ao}{v:Value}{ps:List (PG Ls)}{ao:Option Addr}{cap:Nat}(hS:Sv [X] v 1 Xl ps ao cap:=by assumption)(hn:ps.length<=990000000000:=by omega)(hb: ∀p∈ps,p.l.length<=900000000000:=by assumption):Ct Tryz.prog 36 [v] [X,star (JK 44 2 C9) ps] (fun _:Unit=>.bool true) (fun _=> [X]):=by
 refine AY (n:=116) Tryz.func36 I I I fun F w0 Q hret hnorm hp=>?_
 change WC _ _ _ _ _ _ _ (_::_::F)
 refine A4 fun _ K1=>wA I I<|A3 K1<|A7 fun _ K2=>A4 fun _ K3=>wA I I<|A3 K3<|AG ?_
 rw [show star (JK 44 2 C9) ps=star (JK 44 2 C9) (G4 Cr ps 0) from by rw [Wz]]
 refine Ak (σ:=Nat) (fun k=> [(3,.int .i64 ((k:Nat):Int))]) (fun k=> [star (JK 44 2 C9) (G4 Cr ps k)]) (fun k=>k<=ps.length) (fun k=>ps.length -k) (0) [0,2,5,6,7,8,9,10,11,37,38,39,40,41,42,43,44,45,46,47,48,49,50,51,52,53,54,55,56,57,58,59,60,61,62,63,64,65,66,67,68,69,70,71,72,73,74,75,76,77,78,79,80,81,82,83,84,85,86,87,88,89,90,91,92,93,94,95,96,97,98,99,100,101,102,103,104,105,106,107,108,109,110,111,112,113,114,115] Cw D8 ?_ ?_ Sub.refl ?_
 ·exact Nat.zero_le _
 ·(try dsimp only);exact(Wk.cons Ch Wk.nil)
 rintro k hk K4 K4
 simp only [List.cons_append,List.nil_append]
 refine A7 fun _ K5=>A4 fun _ K6=>wM I I<|wM I I<|A2 (Al I I IK) I ?_
 refine A2 (An I I) I<|A3 K6<|AH I (fun hc0=>?_) (fun hc0=>?_)
 ·try simp only [dz] at hc0
  obtain⟨⟨pa,pc,pl⟩,hpk⟩: ∃p,ps[k]? =some p:=⟨_,List.getElem?_eq_getElem (by omega)⟩
  have hpb:=hb _ (List.mem_of_getElem? hpk)
  dsimp only at hpb
  refine ME (JK 44 2 C9) (G4 Cr ps k) k (x:=⟨pa,pc,pl⟩) (by rw [Lq hpk,if_neg (by omega)]) ?_
  rw [show JK 44 2 C9 ⟨pa,pc,pl⟩=Aa pa pc 2 44 C9 pl from rfl]
  refine AA<|A5 K5<|A7 fun _ K7=>AG<|A4 fun _ K8=>wA I I<|A3 K8<|AG ?_
  rw [show Aa pa pc 2 44 C9 pl=Aa pa pc 2 44 C9 (Nm (Cr (k+1)) pl 0) from by rw [O0]]
  refine Ak (σ:=Nat) (fun i'=> [(4,.int .i64 ((i':Nat):Int))]) (fun i'=> [Aa pa pc 2 44 C9 (Nm (Cr (k+1)) pl i')]) (fun i'=>i'<=pl.length) (fun i'=>pl.length -i') (0) [0,2,3,5,6,7,8,9,10,11,12,13,14,15,16,17,37,38,39,40,41,42,43,44,45,46,47,48,49,50,51,52,53,54,55,56,57,58,59,60,61,62,63,64,65,66,67,68,69,70,71,72,73,74,75,76,77,78,79,80,81,82,83,84,85,86,87,88,89,90,91,92,93,94,95,96,97,98,99,100,101,102,103,104,105,106,107,108,109,110,111,112,113,114,115] Cw D8 ?_ ?_ Sub.refl ?_
  ·exact Nat.zero_le _
  ·(try dsimp only);exact(Wk.cons Ch Wk.nil)
  rintro i' hi K9 K9
  simp only [List.cons_append,List.nil_append]
  have hol:=J0 (Cr (k+1)) hi
  refine A7 fun _ K10=>A4 fun _ K11=>wM I I<|wM I I<|wM I I<|A2 (AO k I I IK IC (hA:=hS) (hi:=by omega)) I ?_
  refine A2 (Af (i:=k) (j:=0) (u:=sl pa pl.length pc) I EP (hA:=hS) (hl:=hpk)) I ?_
  refine A2 (BA I I Bw) I<|A2 (An I I) I<|A3 K11<|AH I (fun hc1=>?_) (fun hc1=>?_)
  ·try simp only [dz] at hc1
   refine Cd (a:=pa) Bf (by omega) (fun gb hgb hcp=>?_)
   subst hgb
   refine AA<|A5 K10<|A7 fun _ K12=>AG<|Am CE (fun i=>([2,2,2,2,2,2,2,2,1,2,0]:List Nat).getD i 0) ?_
   refine jM 0 I I I hp<|jM 1 I I I hp<|jP 2 I (AO k I I IK IC (hA:=hS) (hi:=by omega)) I hp ?_
   refine jT 3 I (Af (i:=k) (j:=0) (u:=sl (some gb) pl.length pc) I EP (hA:=hS) (hl:=hpk)) I hp AQ ?_
   refine jM 4 I I I hp<|jM 5 I I I hp<|jP 6 I (AN (j:=1) I I) I hp<|jM 7 I I I hp<|jO 8<|B7 I (AE aT I (hs:=KD (k:=k+1) (i:=i'))) I I I I ?_
   rintro _ _ ⟨⟨⟩,rfl,hA⟩
   simp only [ca] at hA
   subst hA
   refine⟨(fun _=>Bh),?_⟩
   refine jP 9 I (AT _ I I Bw DD) I hp ?_
   refine jO 10<|EN I (HL (Cr (k+1) i') I I DD (i:=i') (h1:=encLs.one _)) I ?_
   rintro _ _ rfl
   rw [Iz (Cr (k+1)) (by omega)]
   refine jD<|A5 K12<|AD<|wM I I<|A2 (AN (j:=1) I I) I<|wA I I<|AW<|Az (K9 (i'+1) (by omega) (by omega))
  try simp only [dz] at hc1
  obtain rfl:i'=pl.length:=by omega
  rw [J1]
  rw [show Aa pa pc 2 44 C9 (D9 (Cr (k+1)) 0 pl.length)=JK 44 2 C9 (Ld Cr k ⟨pa,pc,pl⟩) from rfl]
  refine MD (JK 44 2 C9) (G4 Cr ps k) k (Ld Cr k ⟨pa,pc,pl⟩) (by rw [Ms];omega) ?_
  rw [Qa hpk]
  refine Aj<|A5 K7<|AD<|wM I I<|A2 (AN (j:=1) I I) I<|wA I I<|AW<|Az (K4 (k+1) (by omega) (by omega))
 try simp only [dz] at hc0
 obtain rfl:k=ps.length:=by omega
 rw [show star (JK 44 2 C9) (G4 Cr ps ps.length)=star (JK 44 2 C9) ((G4 Cr ps ps.length).drop 0) from rfl]
 refine Cz (fun w h=>BO (e:=1) (T:=81) (f:=LW) h) ?_
 refine Aj<|A5 K2<|A4 fun _ K13=>A2 (Ag (v:=sl none 0 0) I) I<|CJ LW 1 81 ?_
 refine A3 K13<|A7 fun _ K14=>A4 fun _ K15=>wA I I<|A3 K15<|AG<|Gq (U6 44 2 C9 Cr) ?_
 refine Ak (σ:=Nat × (List QI) × (Option Nat) × Nat) (fun ⟨k,qs,go,gc⟩=> [(5,sl go qs.length gc),(6,.int .i64 ((k:Nat):Int))]) (fun ⟨k,qs,go,gc⟩=> [star (U6 44 2 C9 Cr) qs,star (JK 44 2 C9) ((G4 Cr ps ps.length).drop k),Aa go gc 1 81 LW qs]) (fun ⟨k,qs,go,gc⟩=>k<=ps.length/\qs.length=k/\Yn ps qs) (fun ⟨k,qs,go,gc⟩=>ps.length -k) ⟨0,[],none,0⟩ [0,2,9,10,11,68,69,70,71,72,73,74,75,76,77,78,79,80,81,82,83,84,85,86,87,88,89,90,91,92,93,94,95,96,97,98,99,100,101,102,103,104,105,106,107,108,109,110,111,112,113,114,115] Cw D8 ?_ ?_ Sub.refl ?_
 ·exact⟨Nat.zero_le _,rfl,Rf⟩
 ·(try dsimp only);exact(Wk.cons Ch (Wk.cons Ch Wk.nil))
 rintro⟨k,qs,go,gc⟩ ⟨hk,hql,hQ⟩ K16 K16
 simp only [List.cons_append,List.nil_append]
 refine A7 fun _ K17=>A4 fun _ K18=>wM I I<|wM I I<|A2 (Al I I IK) I ?_
 refine A2 (An I I) I<|A3 K18<|AH I (fun hc2=>?_) (fun hc2=>?_)
 ·try simp only [dz] at hc2
  obtain⟨⟨pa,pc,pl⟩,hpk⟩: ∃p,ps[k]? =some p:=⟨_,List.getElem?_eq_getElem (by omega)⟩
  have hpb:=hb _ (List.mem_of_getElem? hpk)
  dsimp only at hpb
  refine MF (JK 44 2 C9) (G4 Cr ps ps.length) k (x:=Ld Cr k ⟨pa,pc,pl⟩) (Qb hpk) ?_
  rw [show JK 44 2 C9 (Ld Cr k ⟨pa,pc,pl⟩)=Aa pa pc 2 44 C9 (D9 (Cr (k+1)) 0 pl.length) from rfl]
  refine Bu (fun w h=>B1 (a:=pa) (cap:=pc) (e:=2) (T:=44) (f:=C9) (l:=(D9 (Cr (k+1)) 0 pl.length)) Bf h) (fun hpf=>?_)
  rw [BL] at hpf
  refine Cz (fun w h=>JA h) ?_
  refine AA<|A5 K17<|A7 fun _ K19=>AG<|A4 fun _ K20=>wM I I<|wM I I<|A2 (AO k I I IK IC (hA:=hS) (hi:=by omega)) I ?_
  refine A2 (Af (i:=k) (j:=0) (u:=sl pa pl.length pc) I EP (hA:=hS) (hl:=hpk)) I ?_
  refine wA I I<|A3 K20<|A7 fun _ K21=>A4 fun _ K22=>wA I I<|A3 K22<|AG ?_
  rw [show Jr pa pc pa pc 2 44 C9 (D9 (Cr (k+1)) 0 pl.length) (D9 (Cr (k+1)) 0 pl.length)=Jr pa pc pa pc 2 44 C9 (D9 (Cr (k+1)) 0 pl.length) (D9 (Cr (k+1)) 0 (pl.length+0)) from rfl]
  refine Ak (σ:=Nat × (Option Nat) × Nat) (fun ⟨i',a',c'⟩=> [(7,sl a' (pl.length+i') c'),(8,.int .i64 ((i':Nat):Int))]) (fun ⟨i',a',c'⟩=> [Jr pa pc a' c' 2 44 C9 (D9 (Cr (k+1)) 0 pl.length) (D9 (Cr (k+1)) 0 (pl.length+i'))]) (fun ⟨i',a',c'⟩=>i'<=70) (fun ⟨i',a',c'⟩=>70 -i') ⟨0,pa,pc⟩ [0,2,5,6,9,10,11,37,38,39,40,41,42,43,44,45,46,64,65,66,67,68,69,70,71,72,73,74,75,76,77,78,79,80,81,82,83,84,85,86,87,88,89,90,91,92,93,94,95,96,97,98,99,100,101,102,103,104,105,106,107,108,109,110,111,112,113,114,115] Cw D8 ?_ ?_ Sub.refl ?_
  ·exact Nat.zero_le _
  ·(try dsimp only);exact(Wk.cons Ch (Wk.cons Ch Wk.nil))
  rintro⟨i',a',c'⟩ hi K23 K23
  simp only [List.cons_append,List.nil_append]
  have hml:=BL (Cr (k+1)) 0 (pl.length+i')
  refine A7 fun _ K24=>A4 fun _ K25=>wM I I<|A2 (An (j:=70) I I) I<|A3 K25<|AH I (fun hc3=>?_) (fun hc3=>?_)
  ·try simp only [dz] at hc3
   refine AA<|A5 K24<|A7 fun _ K26=>AG<|AD<|wM I I<|wM I I<|A2 (AN (j:=1) I I) I<|wM I I<|wM I I<|A2 (AO k I I IK IC (hA:=hS) (hi:=by omega)) I ?_
   refine A2 (Af (i:=k) (j:=0) (u:=sl pa pl.length pc) I EP (hA:=hS) (hl:=hpk)) I ?_
   refine A2 (BA I I Bw) I<|wM I I<|A2 (AN I I) I<|AB (AE aT I (hs:=KD (k:=k+1) (i:=pl.length+i'))) I I I ?_
   rintro _ _ ⟨⟨⟩,rfl,hA⟩
   simp only [ca] at hA
   subst hA
   refine AB (Br (xs:=C9 (Cr (k+1) (pl.length+i'))) I Bw I9 DD (hl:=encLs.len _)) I I I ?_
   rintro _ _ ⟨b62,rfl,rfl⟩
   refine AB (MI (l:=(D9 (Cr (k+1)) 0 pl.length)) (l':=(D9 (Cr (k+1)) 0 (pl.length+i'))) encLs (Cr (k+1) (pl.length+i')) I I Bw Bw Lg (Hr _ _ _) (hlen:=by rw [BL])) I I I ?_
   rintro _ _ ⟨a63,cap63,rfl,rfl⟩
   rw [BL,Lp,Nat.add_assoc]
   refine wA I I<|AW<|A5 K26<|AD<|wM I I<|A2 (AN (j:=1) I I) I<|wA I I<|AW<|Az (K23 ⟨i'+1,a63,cap63⟩ (by dsimp only;omega) (by dsimp only;omega))
  try simp only [dz] at hc3
  obtain rfl:i'=70:=by omega
  refine Bu (fun w h=>I0 (a:=pa) (cap:=pc) (a':=a') (cap':=c') (e:=2) (T:=44) (f:=C9) (l:=(D9 (Cr (k+1)) 0 pl.length)) (l':=(D9 (Cr (k+1)) 0 (pl.length+70))) h) (fun hqf=>?_)
  rw [BL] at hqf
  have hq1:a'≠none:=fun e=>by have:=congrArg List.length (hqf.1 e);rw [BL] at this;simp at this
  have hq2:pl.length+70<=c':=hqf.2
  have hq3:pa=none ->pl.length=0:=fun e=>by have:=congrArg List.length (hpf.1 e);rw [BL] at this;exact this
  have hq4:pl.length<=pc:=hpf.2
  rw [show Jr pa pc a' c' 2 44 C9 (D9 (Cr (k+1)) 0 pl.length) (D9 (Cr (k+1)) 0 (pl.length+70))=U6 44 2 C9 Cr ⟨pa,pc,a',c',pl.length,k⟩ from rfl]
  refine MC (U6 44 2 C9 Cr) qs ⟨pa,pc,a',c',pl.length,k⟩ ?_
  refine Aj<|A5 K21<|AD<|wM I I<|wM I I<|AB (Br (xs:= [sl a' (pl.length+70) c']) I IK eh IC) I I I ?_
  rintro _ _ ⟨b66,rfl,rfl⟩
  refine AB (B6 (f:=LW) Tm ⟨pa,pc,a',c',pl.length,k⟩ I I IK IK fZ) I I I ?_
  rintro _ _ ⟨a67,cap67,rfl,rfl⟩
  refine wA I I<|AW<|A5 K19<|AD<|wM I I<|A2 (AN (j:=1) I I) I<|wA I I<|AW<|Az (K16 ⟨k+1,qs++ [⟨pa,pc,a',c',pl.length,k⟩],a67,cap67⟩ (⟨by (try dsimp only);omega,by(try dsimp only);rw [List.length_append,List.length_singleton];omega,OY hQ (p:=⟨pa,pc,pl⟩) (by rw [hql];exact hpk) (by (try dsimp only);omega) hq1 hq2 hq3 hq4 I I I⟩) (by (try dsimp only);omega))
 try simp only [dz] at hc2
 obtain rfl:k=ps.length:=by omega
 refine Aj<|A5 K14<|A7 fun _ K27=>A4 fun _ K28=>wA I I<|A3 K28<|AG<|Ak (σ:=Nat) (fun k2=> [(9,.int .i64 ((k2:Nat):Int))]) (fun k2=> []) (fun k2=>k2<=ps.length) (fun k2=>ps.length -k2) (0) [0,5] Cw D8 ?_ ?_ Sub.refl ?_
 ·exact Nat.zero_le _
 ·(try dsimp only);exact(Wk.cons Ch Wk.nil)
 rintro k2 hk2 K29 K29
 simp only [List.cons_append,List.nil_append]
 refine A7 fun _ K30=>A4 fun _ K31=>wM I I<|wM I I<|A2 (Al I I IK) I ?_
 refine A2 (An I I) I<|A3 K31<|AH I (fun hc4=>?_) (fun hc4=>?_)
 ·try simp only [dz] at hc4
  refine Cd (a:=go) Bf (by omega) (fun gb hgb hcg=>?_)
  subst hgb
  obtain⟨q,hq⟩: ∃q,qs[k2]? =some q:=⟨_,List.getElem?_eq_getElem (by omega)⟩
  obtain⟨hqj,hqa,hqc,hqn,hqm,⟨qa,qcp,ql⟩,hpk,hea,hec,hel⟩:=hQ k2 q hq
  dsimp only at hea hec hel
  have hpb:=hb _ (List.mem_of_getElem? hpk)
  dsimp only at hpb
  have hsn:=Sv.star (F:=U6 44 2 C9 Cr) k2 hq (U1 (T:=44) (g:=Cr) encLs hqa hqc)
  have hse:=Sv.star (F:=U6 44 2 C9 Cr) k2 hq (U2 (T:=44) (g:=Cr) encLs hqn hqm)
  rw [hqj] at hsn hse
  have hse':=hse
  rw [hea,hec,hel] at hse'
  refine AA<|A5 K30<|A7 fun _ K32=>AG<|A4 fun _ K33=>wA I I<|A3 K33<|AG<|Ak (σ:=Nat) (fun i2=> [(10,.int .i64 ((i2:Nat):Int))]) (fun i2=> []) (fun i2=>i2<=q.n+70) (fun i2=>q.n+70 -i2) (0) [0,5,9,68,69,70,71,72,73] Cw D8 ?_ ?_ Sub.refl ?_
  ·exact Nat.zero_le _
  ·(try dsimp only);exact(Wk.cons Ch Wk.nil)
  rintro i2 hi2 K34 K34
  simp only [List.cons_append,List.nil_append]
  refine A7 fun _ K35=>A4 fun _ K36=>wM I I<|wM I I<|wM I I<|A2 (AT k2 I I IK IC (hi:=by omega)) I ?_
  refine A2 (AU (f:=LW) (i:=k2) (j:=0) I EP (hl:=hq)) I ?_
  refine A2 (BA I I Bw) I<|A2 (An I I) I<|A3 K36<|AH I (fun hc5=>?_) (fun hc5=>?_)
  ·try simp only [dz] at hc5
   refine AA<|A5 K35<|A7 fun _ K37=>AG<|A4 fun _ K38=>wM I I<|A2 (AN (j:=1) I I) I<|wM I I<|AB (AE aT I (hs:=KD (k:=k2+1) (i:=i2))) I I I ?_
   rintro _ _ ⟨⟨⟩,rfl,hA⟩
   simp only [ca] at hA
   subst hA
   refine AB (AZ I9) I I I ?_
   rintro _ _ ⟨b11,rfl,rfl⟩
   refine AX (AV (ys:=C9 (Cr (k2+1) i2)) I I DD (h1:=encLs.one (Cr (k2+1) i2)) (hv:=I) (hr:=I)) I I ?_
   rintro _ _ rfl
   refine A3 K38<|A7 fun _ K39=>Am CE (fun _=>2) ?_
   refine jM 0 I I I hp<|jM 1 I I I hp<|jP 2 I (AT k2 I I IK IC (hi:=by omega)) I hp ?_
   refine jT 3 I (AU (f:=LW) (i:=k2) (j:=0) I EP (hl:=hq)) I hp AQ ?_
   refine jM 4 I I I hp<|jP 5 I (AO i2 I I Bw DD (hA:=hsn) (hi:=by rw [BL];omega)) I hp ?_
   refine jT 6 I (BG (f:=C9) (i:=i2) (y:=Cr (k2+1) (0+i2)) I EE (hA:=hsn) (hl:=G8 (by omega))) I hp AQ ?_
   refine jT 7 I (AI (vs:=C9 (Cr (k2+1) i2)) I EE) I hp AQ<|jP 8 I (AL (v:=.bool false) (NX (xs:=C9 (Cr (k2+1) (0+i2))) (ys:=C9 (Cr (k2+1) i2)) I I JR (EqL.sc BX I I (DN MU _ _) (EqL.sc BF I I (DN Vg _ _) EqL.nil))) (congrArg Value.bool (by rw [SX,Nat.zero_add];simp))) I hp ?_
   refine jM 9 I I I hp<|jM 10 I I I hp<|jM 11 I I I hp<|jM 12 I I I hp<|jP 13 I (AO k2 I I IK IC (hA:=hS) (hi:=by omega)) I hp ?_
   refine jT 14 I (Af (i:=k2) (j:=0) (u:=sl qa ql.length qcp) I EP (hA:=hS) (hl:=hpk)) I hp AQ ?_
   refine jP 15 I (BA I I Bw) I hp<|jP 16 I (An I I) I hp<|jM 17 I I I hp<|Be 104 I (fun hg40=>?_) (fun hg40=>?_)
   ·try simp only [dz] at hg40
    refine jM 18 I I I hp<|jM 19 I I I hp<|jP 20 I (AO k2 I I IK IC (hA:=hS) (hi:=by omega)) I hp ?_
    refine jT 21 I (Af (i:=k2) (j:=0) (u:=sl qa ql.length qcp) I EP (hA:=hS) (hl:=hpk)) I hp AQ ?_
    refine jM 22 I I I hp<|jP 23 I (AO i2 I I Bw DD (hA:=hse') (hi:=by rw [BL];omega)) I hp ?_
    refine jT 24 I (BG (f:=C9) (i:=i2) (y:=Cr (k2+1) (0+i2)) I EE (hA:=hse') (hl:=G8 (by omega))) I hp AQ ?_
    refine jT 25 I (AI (vs:=C9 (Cr (k2+1) i2)) I EE) I hp AQ<|jP 26 I (AL (v:=.bool false) (NX (xs:=C9 (Cr (k2+1) (0+i2))) (ys:=C9 (Cr (k2+1) i2)) I I JR (EqL.sc BX I I (DN MU _ _) (EqL.sc BF I I (DN Vg _ _) EqL.nil))) (congrArg Value.bool (by rw [SX,Nat.zero_add];simp))) I hp ?_
    refine jP 27 I (AC I I) I hp<|jP 28 I (A8 I I) I hp<|jD<|A5 K39<|AM I<|AA<|A5 K37<|AD<|wM I I<|A2 (AN (j:=1) I I) I<|wA I I<|AW<|Az (K34 (i2+1) (by omega) (by omega))
   try simp only [dz] at hg40
   refine jK 18 I I hp<|jK 19 I I hp<|jK 20 I I hp<|jK 21 I I hp<|jK 22 I I hp<|jK 23 I I hp<|jK 24 I I hp<|jK 25 I I hp<|jK 26 I I hp<|jP 27 I (A8 I I) I hp<|jP 28 I (A8 I I) I hp<|jD<|A5 K39<|AM I<|AA ?_
   refine A5 K37<|AD<|wM I I<|A2 (AN (j:=1) I I) I<|wA I I<|AW<|Az (K34 (i2+1) (by omega) (by omega))
  try simp only [dz] at hc5
  refine Aj<|A5 K32<|AD<|wM I I<|A2 (AN (j:=1) I I) I<|wA I I<|AW<|Az (K29 (k2+1) (by omega) (by omega))
 try simp only [dz] at hc4
 refine Aj<|A5 K27<|A4 fun _ K41=>wA I I<|A3 K41<|AK ?_
 exact hret.gf () (BR rfl rfl)
end Go.Proofs.YtoakfknnaiapiaaGreat
