/-
  Contracts of functions that the claim reaches, or the logic and the plain laws that they rest on, or the row over them. (Conditions: none beyond the statement.)
-/
import Derived.Test.YtoakfknnaiapiaaGreatKAO
set_option linter.all false
namespace Go.Proofs.YtoakfknnaiapiaaGreat
open Go.RowKit Go.SL Go.ShM Go.SvM
set_option maxHeartbeats 1000000
set_option maxRecDepth 20000
set_option linter.all false
theorem NM:DF Tryz.prog 22=true:=by kernel_rfl
theorem aV:DF Tryz.prog 56=true:=by kernel_rfl
theorem RO:DF Tryz.prog 73=true:=by kernel_rfl
theorem e0:DF Tryz.prog 74=true:=by kernel_rfl
theorem VB:DF Tryz.prog 75=true:=by kernel_rfl
theorem dZ{p:Nat}{room t:Int}{s:Sv1}{r:Rq}{Y:Ao}(h:t<s.tick\/1099511627776<t):Ct Tryz.prog 52 [.pointer (some ⟨p,0,none⟩),.int .i64 t,.agg (CP r).toArray] [Du 24 83 5 44 p room s,Y] (fun _:Unit=>.tuple #[.agg [.int .u8 0,.slice none 0 0,.slice none 0 0].toArray,.int .i64 191]) (fun _=> [Du 24 83 5 44 p room s,Y]):=by
 refine AY (n:=131) Tryz.func52 I I I fun F w0 Q hret hnorm hp=>?_
 change WC _ _ _ _ _ _ _ (_::_::F)
 refine A4 fun _ K1=>AB (Ay (xs:=CP r) I I) I I I ?_
 rintro _ _ ⟨b5,rfl,rfl⟩
 refine AB (AZ Ce) I I I ?_
 rintro _ _ ⟨b6,rfl,rfl⟩
 refine wA I I<|A3 K1<|A4 fun _ K2=>wM I I<|wM I I<|AB (AE NM I (hs:=Q2 (p:=p) (room:=room) (s:=s) h)) I I I ?_
 rintro _ _ ⟨⟨⟩,rfl,hA⟩
 simp only [ca] at hA
 subst hA
 refine wA I I<|A3 K2<|A7 fun _ K3=>A4 fun _ K4=>wM I I<|A2 (Bj (i:=191) (j:=0) I I) I ?_
 refine A3 K4<|Ad I<|A4 fun _ K5=>A2 (Ah Bp I) I<|wM I I<|AX (AV (ys:= [.int .u8 0,.slice none 0 0,.slice none 0 0]) I I Ba (h1:=by simp [BD,Value.cells,Value.oneCell',sl]) (hr:=I)) I I ?_
 rintro _ _ rfl
 refine wA I I<|A3 K5<|AK ?_
 exact hret.gf () (Cp rfl rfl rfl Bn)

theorem aG{p:Nat}{room t:Int}{s:Sv1}{r:Rq}{Y:Ao}(hw:Wf room s)(hn:s.l.length<=100000000)(h1:s.tick<=t)(h2:t<=1099511627776)(hno:(IE r && C2 t r)=false):Ct Tryz.prog 52 [.pointer (some ⟨p,0,none⟩),.int .i64 t,.agg (CP r).toArray] [Du 24 83 5 44 p room s,Y] (fun _:Unit=>.tuple #[.agg [.int .u8 7,.slice none 0 0,.slice none 0 0].toArray,.int .i64 0]) (fun _=> [Du 24 83 5 44 p room ⟨t,BW t s.l⟩,Y]):=by
 refine AY (n:=131) Tryz.func52 I I I fun F w0 Q hret hnorm hp=>?_
 change WC _ _ _ _ _ _ _ (_::_::F)
 refine A4 fun _ K1=>AB (Ay (xs:=CP r) I I) I I I ?_
 rintro _ _ ⟨b5,rfl,rfl⟩
 refine AB (AZ Ce) I I I ?_
 rintro _ _ ⟨b6,rfl,rfl⟩
 refine wA I I<|A3 K1<|A4 fun _ K2=>wM I I<|wM I I<|AB (AE NM I (hs:=HS (p:=p) (room:=room) (t:=t) (s:=s) hw hn h1 h2)) I I I ?_
 rintro _ _ ⟨⟨⟩,rfl,hA⟩
 simp only [ca] at hA
 subst hA
 refine wA I I<|A3 K2<|A7 fun _ K3=>A4 fun _ K4=>wM I I<|A2 (Bj (i:=0) (j:=0) I I) I ?_
 refine A3 K4<|AM I<|AA<|A5 K3<|A7 fun _ K5=>A4 fun _ K6=>A2 (AI (vs:=CP r) I EG (hl:=by rw [B5];omega) (hi:=CM r)) I ?_
 refine AB (AE RO I (hs:=H4 (r:=r))) I I I ?_
 rintro _ _ ⟨⟨⟩,rfl,hA⟩
 simp only [ca] at hA
 subst hA
 refine A2 (Au I) I<|wM I I<|Ae 23 I (fun hg7=>?_) (fun hg7=>?_)
 ·try simp only [dz] at hg7
  refine wK I<|wK I<|wK I<|wK I<|wK I<|wK I<|wK I<|wK I<|wK I<|wK I<|wK I<|wK I<|wK I<|wK I<|wK I ?_
  refine A2 (AC I I) I<|A3 K6<|Ad I<|A4 fun _ K8=>A2 (AL (v:=.agg ([.int .u8 7,.slice none 0 0,.slice none 0 0]:List Value).toArray) (Ah Bp I) I) I<|AX (AV (ys:= [.int .u8 7,.slice none 0 0,.slice none 0 0]) I I Ba (h1:=by simp [BD,Value.cells,Value.oneCell',sl]) (hr:=I)) I I ?_
  rintro _ _ rfl
  refine wA I I<|A3 K8<|AK ?_
  exact hret.gf () (Cp rfl rfl rfl Bn)
 try simp only [dz] at hg7
 refine A2 (A1 I C3) I<|A2 (A6 I Dw (v:=.int .u8 ((r.kind.toNat:Nat):Int)) (hi:=BU r)) I<|A2 (DL (b:=2#8) I I) I<|wM I I<|Ae 27 I (fun hg9=>?_) (fun hg9=>?_)
 ·try simp only [dz] at hg9
  refine wK I<|wK I<|wK I<|A2 (AC I I) I<|wM I I<|A2 (A1 I BS) I<|A2 (A1 I Bm) I<|A2 (A6 I BF (v:=.int .i64 r.un) (hi:=EJ r)) I<|wM I I<|A2 (Bt I I) I<|A2 (AC I I) I<|A2 (A8 I I) I<|A3 K6<|AH I (fun hc1=>?_) (fun hc1=>?_)
  ·try simp only [dz] at hc1
   refine A4 fun _ K10=>A2 (AL (v:=.agg ([.int .u8 7,.slice none 0 0,.slice none 0 0]:List Value).toArray) (Ah Bp I) I) I<|AX (AV (ys:= [.int .u8 7,.slice none 0 0,.slice none 0 0]) I I Ba (h1:=by simp [BD,Value.cells,Value.oneCell',sl]) (hr:=I)) I I ?_
   rintro _ _ rfl
   refine wA I I<|A3 K10<|AK ?_
   exact hret.gf () (Cp rfl rfl rfl Bn)
  try simp only [dz] at hc1
  (exfalso;revert hno;unfold C2;simp_all;done)
 try simp only [dz] at hg9
 refine A2 (A1 I C3) I<|A2 (A6 I Dw (v:=.int .u8 ((r.kind.toNat:Nat):Int)) (hi:=BU r)) I<|A2 (DL (b:=4#8) I I) I<|A2 (A8 I I) I<|wM I I<|Ae 32 I (fun hg11=>?_) (fun hg11=>?_)
 ·try simp only [dz] at hg11
  refine A2 (A1 I BS) I<|A2 (A1 I Bm) I<|A2 (A6 I BF (v:=.int .i64 r.un) (hi:=EJ r)) I<|wM I I<|A2 (Bt I I) I<|A2 (AC I I) I<|A2 (A8 I I) I<|A3 K6<|AH I (fun hc1=>?_) (fun hc1=>?_)
  ·try simp only [dz] at hc1
   refine A4 fun _ K12=>A2 (AL (v:=.agg ([.int .u8 7,.slice none 0 0,.slice none 0 0]:List Value).toArray) (Ah Bp I) I) I<|AX (AV (ys:= [.int .u8 7,.slice none 0 0,.slice none 0 0]) I I Ba (h1:=by simp [BD,Value.cells,Value.oneCell',sl]) (hr:=I)) I I ?_
   rintro _ _ rfl
   refine wA I I<|A3 K12<|AK ?_
   exact hret.gf () (Cp rfl rfl rfl Bn)
  try simp only [dz] at hc1
  (exfalso;revert hno;unfold C2;simp_all;done)
 try simp only [dz] at hg11
 refine wK I<|wK I<|wK I<|wK I<|wK I<|A2 (A8 I I) I<|A2 (A8 I I) I<|A3 K6<|AM I ?_
 (exfalso;revert hno;unfold C2;simp_all;done)

theorem Xt{p:Nat}{room t:Int}{s:Sv1}{r:Rq}{Y:Ao}(hw:Wf room s)(hn:s.l.length<=100000000)(h1:s.tick<=t)(h2:t<=1099511627776)(hyes:(IE r && C2 t r)=true)(hk:r.kind=1#8):Ct Tryz.prog 52 [.pointer (some ⟨p,0,none⟩),.int .i64 t,.agg (CP r).toArray] [Du 24 83 5 44 p room s,Y] (fun g:Option Nat × Nat=>.tuple #[.agg [.int .u8 1,sl g.1 (CB r.ix (BW t s.l)).length g.2,.slice none 0 0].toArray,.int .i64 0]) (fun g=> [Du 24 83 5 44 p room ⟨t,BW t s.l⟩,Y,Aa g.1 g.2 1 3 eI (CB r.ix (BW t s.l))]):=by
 refine AY (n:=131) Tryz.func52 I I I fun F w0 Q hret hnorm hp=>?_
 change WC _ _ _ _ _ _ _ (_::_::F)
 have hw2:=hw.tick h1 h2
 have hn2:(BW t s.l).length<=100000000:=Nat.le_trans (List.length_filterMap_le _ _) hn
 refine A4 fun _ K1=>AB (Ay (xs:=CP r) I I) I I I ?_
 rintro _ _ ⟨b5,rfl,rfl⟩
 refine AB (AZ Ce) I I I ?_
 rintro _ _ ⟨b6,rfl,rfl⟩
 refine wA I I<|A3 K1<|A4 fun _ K2=>wM I I<|wM I I<|AB (AE NM I (hs:=HS (p:=p) (room:=room) (t:=t) (s:=s) hw hn h1 h2)) I I I ?_
 rintro _ _ ⟨⟨⟩,rfl,hA⟩
 simp only [ca] at hA
 subst hA
 refine wA I I<|A3 K2<|A7 fun _ K3=>A4 fun _ K4=>wM I I<|A2 (Bj (i:=0) (j:=0) I I) I ?_
 refine A3 K4<|AM I<|AA<|A5 K3<|A7 fun _ K5=>A4 fun _ K6=>A2 (AI (vs:=CP r) I EG (hl:=by rw [B5];omega) (hi:=CM r)) I ?_
 refine AB (AE RO I (hs:=H4 (r:=r))) I I I ?_
 rintro _ _ ⟨⟨⟩,rfl,hA⟩
 simp only [ca] at hA
 subst hA
 refine A2 (Au I) I<|wM I I<|Ae 23 I (fun hg7=>?_) (fun hg7=>?_)
 ·try simp only [dz] at hg7
  refine wK I<|wK I<|wK I<|wK I<|wK I<|wK I<|wK I<|wK I<|wK I<|wK I<|wK I<|wK I<|wK I<|wK I<|wK I ?_
  refine A2 (AC I I) I<|A3 K6<|Ad I ?_
  (exfalso;revert hyes;unfold C2;simp_all;done)
 try simp only [dz] at hg7
 refine A2 (A1 I C3) I<|A2 (A6 I Dw (v:=.int .u8 ((r.kind.toNat:Nat):Int)) (hi:=BU r)) I<|A2 (DL (b:=2#8) I I) I<|wM I I<|Ae 27 I (fun hg8=>?_) (fun hg8=>?_)
 ·try simp only [dz] at hg8
  refine wK I<|wK I<|wK I<|A2 (AC I I) I<|wM I I<|A2 (A1 I BS) I<|A2 (A1 I Bm) I<|A2 (A6 I BF (v:=.int .i64 r.un) (hi:=EJ r)) I<|wM I I<|A2 (Bt I I) I<|A2 (AC I I) I<|A2 (A8 I I) I<|A3 K6<|AH I (fun hc1=>?_) (fun hc1=>?_)
  ·try simp only [dz] at hc1
   (exfalso;revert hyes;unfold C2;simp_all;done)
  try simp only [dz] at hc1
  refine AA<|A5 K5<|A7 fun _ K9=>A4 fun _ K10=>A2 (A1 I C3) I<|A2 (AL (v:=.int .u8 1) (A6 I Dw (v:=.int .u8 ((r.kind.toNat:Nat):Int)) (hi:=BU r)) (by rw [hk];rfl)) I ?_
  refine A3 K10<|AG<|A4 fun _ K11=>A2 (Ab (i:=1) (j:=1) I I) I<|wA I I<|A3 K11<|Ad I<|A4 fun _ K12=>wM I I<|A2 (A1 I CU) I<|A2 (AI (vs:=r.ix.l.flatMap (eU .u8)) I Cv (hl:=by rw [B5];omega) (hi:=Ci r)) I ?_
  refine AB (AE aV I (hs:=H3 (p:=p) (room:=room) (s:=⟨t,BW t s.l⟩) (ix:=r.ix) hn2)) I I I ?_
  rintro _ _ ⟨⟨⟨a49,c49⟩,⟨a50,c50⟩⟩,rfl,hA⟩
  simp only [ca] at hA
  subst hA
  refine wM I I<|A2 (BE I) I<|A2 (BN I) I<|wA I I<|wA I I<|A3 K12<|A4 fun _ K13=>wM I I<|A2 (AL (v:=.agg ([.int .u8 1,sl a49 (CB r.ix (BW t s.l)).length c49,.slice none 0 0]:List Value).toArray) (Ah Bp I) I) I<|AX (AV (ys:= [.int .u8 1,sl a49 (CB r.ix (BW t s.l)).length c49,.slice none 0 0]) I I Ba (h1:=by simp [BD,Value.cells,Value.oneCell',sl]) (hr:=I)) I I ?_
  rintro _ _ rfl
  refine wA I I<|A3 K13<|AK ?_
  exact hret.gf (a49,c49) (Cp rfl rfl rfl Bn)
 try simp only [dz] at hg8
 refine A2 (A1 I C3) I<|A2 (A6 I Dw (v:=.int .u8 ((r.kind.toNat:Nat):Int)) (hi:=BU r)) I<|A2 (DL (b:=4#8) I I) I<|A2 (A8 I I) I<|wM I I<|Ae 32 I (fun hg14=>?_) (fun hg14=>?_)
 ·try simp only [dz] at hg14
  refine A2 (A1 I BS) I<|A2 (A1 I Bm) I<|A2 (A6 I BF (v:=.int .i64 r.un) (hi:=EJ r)) I<|wM I I<|A2 (Bt I I) I<|A2 (AC I I) I<|A2 (A8 I I) I<|A3 K6<|AH I (fun hc1=>?_) (fun hc1=>?_)
  ·try simp only [dz] at hc1
   (exfalso;revert hyes;unfold C2;simp_all;done)
  try simp only [dz] at hc1
  refine AA<|A5 K5<|A7 fun _ K15=>A4 fun _ K16=>A2 (A1 I C3) I<|A2 (AL (v:=.int .u8 1) (A6 I Dw (v:=.int .u8 ((r.kind.toNat:Nat):Int)) (hi:=BU r)) (by rw [hk];rfl)) I ?_
  refine A3 K16<|AG<|A4 fun _ K17=>A2 (Ab (i:=1) (j:=1) I I) I<|wA I I<|A3 K17<|Ad I<|A4 fun _ K18=>wM I I<|A2 (A1 I CU) I<|A2 (AI (vs:=r.ix.l.flatMap (eU .u8)) I Cv (hl:=by rw [B5];omega) (hi:=Ci r)) I ?_
  refine AB (AE aV I (hs:=H3 (p:=p) (room:=room) (s:=⟨t,BW t s.l⟩) (ix:=r.ix) hn2)) I I I ?_
  rintro _ _ ⟨⟨⟨a49,c49⟩,⟨a50,c50⟩⟩,rfl,hA⟩
  simp only [ca] at hA
  subst hA
  refine wM I I<|A2 (BE I) I<|A2 (BN I) I<|wA I I<|wA I I<|A3 K18<|A4 fun _ K19=>wM I I<|A2 (AL (v:=.agg ([.int .u8 1,sl a49 (CB r.ix (BW t s.l)).length c49,.slice none 0 0]:List Value).toArray) (Ah Bp I) I) I<|AX (AV (ys:= [.int .u8 1,sl a49 (CB r.ix (BW t s.l)).length c49,.slice none 0 0]) I I Ba (h1:=by simp [BD,Value.cells,Value.oneCell',sl]) (hr:=I)) I I ?_
  rintro _ _ rfl
  refine wA I I<|A3 K19<|AK ?_
  exact hret.gf (a49,c49) (Cp rfl rfl rfl Bn)
 try simp only [dz] at hg14
 refine wK I<|wK I<|wK I<|wK I<|wK I<|A2 (A8 I I) I<|A2 (A8 I I) I<|A3 K6<|AM I<|AA<|A5 K5<|A7 fun _ K20=>A4 fun _ K21=>A2 (A1 I C3) I<|A2 (AL (v:=.int .u8 1) (A6 I Dw (v:=.int .u8 ((r.kind.toNat:Nat):Int)) (hi:=BU r)) (by rw [hk];rfl)) I ?_
 refine A3 K21<|AG<|A4 fun _ K22=>A2 (Ab (i:=1) (j:=1) I I) I<|wA I I<|A3 K22<|Ad I<|A4 fun _ K23=>wM I I<|A2 (A1 I CU) I<|A2 (AI (vs:=r.ix.l.flatMap (eU .u8)) I Cv (hl:=by rw [B5];omega) (hi:=Ci r)) I ?_
 refine AB (AE aV I (hs:=H3 (p:=p) (room:=room) (s:=⟨t,BW t s.l⟩) (ix:=r.ix) hn2)) I I I ?_
 rintro _ _ ⟨⟨⟨a49,c49⟩,⟨a50,c50⟩⟩,rfl,hA⟩
 simp only [ca] at hA
 subst hA
 refine wM I I<|A2 (BE I) I<|A2 (BN I) I<|wA I I<|wA I I<|A3 K23<|A4 fun _ K24=>wM I I<|A2 (AL (v:=.agg ([.int .u8 1,sl a49 (CB r.ix (BW t s.l)).length c49,.slice none 0 0]:List Value).toArray) (Ah Bp I) I) I<|AX (AV (ys:= [.int .u8 1,sl a49 (CB r.ix (BW t s.l)).length c49,.slice none 0 0]) I I Ba (h1:=by simp [BD,Value.cells,Value.oneCell',sl]) (hr:=I)) I I ?_
 rintro _ _ rfl
 refine wA I I<|A3 K24<|AK ?_
 exact hret.gf (a49,c49) (Cp rfl rfl rfl Bn)

theorem V4{p:Nat}{room t:Int}{s:Sv1}{r:Rq}{Y:Ao}{rp:Rp}{l2:List Kp}(hw:Wf room s)(hn:s.l.length<=100000000)(h1:s.tick<=t)(h2:t<=1099511627776)(hyes:(IE r && C2 t r)=true)(hk:r.kind=2#8)(hB:Sv [Y] r.b.v 1 (eU .u8 (w:=8)) r.b.l r.b.ao r.b.cap)(hbn:r.b.l.length<=33554432)(hc:E2 room (BW t s.l) r=(rp,l2)):Ct Tryz.prog 52 [.pointer (some ⟨p,0,none⟩),.int .i64 t,.agg (CP r).toArray] [Du 24 83 5 44 p room s,Y] (fun _:Unit=>.tuple #[.agg [.int .u8 rp.kind,.slice none 0 0,.slice none 0 0].toArray,.int .i64 0]) (fun _=> [Du 24 83 5 44 p room ⟨t,l2⟩,Y]):=by
 refine AY (n:=131) Tryz.func52 I I I fun F w0 Q hret hnorm hp=>?_
 change WC _ _ _ _ _ _ _ (_::_::F)
 have hw2:=hw.tick h1 h2
 have hn2:(BW t s.l).length<=100000000:=Nat.le_trans (List.length_filterMap_le _ _) hn
 refine A4 fun _ K1=>AB (Ay (xs:=CP r) I I) I I I ?_
 rintro _ _ ⟨b5,rfl,rfl⟩
 refine AB (AZ Ce) I I I ?_
 rintro _ _ ⟨b6,rfl,rfl⟩
 refine wA I I<|A3 K1<|A4 fun _ K2=>wM I I<|wM I I<|AB (AE NM I (hs:=HS (p:=p) (room:=room) (t:=t) (s:=s) hw hn h1 h2)) I I I ?_
 rintro _ _ ⟨⟨⟩,rfl,hA⟩
 simp only [ca] at hA
 subst hA
 refine wA I I<|A3 K2<|A7 fun _ K3=>A4 fun _ K4=>wM I I<|A2 (Bj (i:=0) (j:=0) I I) I ?_
 refine A3 K4<|AM I<|AA<|A5 K3<|A7 fun _ K5=>A4 fun _ K6=>A2 (AI (vs:=CP r) I EG (hl:=by rw [B5];omega) (hi:=CM r)) I ?_
 refine AB (AE RO I (hs:=H4 (r:=r))) I I I ?_
 rintro _ _ ⟨⟨⟩,rfl,hA⟩
 simp only [ca] at hA
 subst hA
 refine A2 (Au I) I<|wM I I<|Ae 23 I (fun hg7=>?_) (fun hg7=>?_)
 ·try simp only [dz] at hg7
  refine wK I<|wK I<|wK I<|wK I<|wK I<|wK I<|wK I<|wK I<|wK I<|wK I<|wK I<|wK I<|wK I<|wK I<|wK I ?_
  refine A2 (AC I I) I<|A3 K6<|Ad I ?_
  (exfalso;revert hyes;unfold C2;simp_all;done)
 try simp only [dz] at hg7
 refine A2 (A1 I C3) I<|A2 (A6 I Dw (v:=.int .u8 ((r.kind.toNat:Nat):Int)) (hi:=BU r)) I<|A2 (DL (b:=2#8) I I) I<|wM I I<|Ae 27 I (fun hg8=>?_) (fun hg8=>?_)
 ·try simp only [dz] at hg8
  refine wK I<|wK I<|wK I<|A2 (AC I I) I<|wM I I<|A2 (A1 I BS) I<|A2 (A1 I Bm) I<|A2 (A6 I BF (v:=.int .i64 r.un) (hi:=EJ r)) I<|wM I I<|A2 (Bt I I) I<|A2 (AC I I) I<|A2 (A8 I I) I<|A3 K6<|AH I (fun hc1=>?_) (fun hc1=>?_)
  ·try simp only [dz] at hc1
   (exfalso;revert hyes;unfold C2;simp_all;done)
  try simp only [dz] at hc1
  refine AA<|A5 K5<|A7 fun _ K9=>A4 fun _ K10=>A2 (A1 I C3) I<|A2 (AL (v:=.int .u8 2) (A6 I Dw (v:=.int .u8 ((r.kind.toNat:Nat):Int)) (hi:=BU r)) (by rw [hk];rfl)) I ?_
  refine A3 K10<|AG<|A4 fun _ K11=>A2 (Ab (i:=2) (j:=1) I I) I<|wA I I<|A3 K11<|AM I<|A4 fun _ K12=>A2 (Ab (i:=2) (j:=2) I I) I<|wA I I<|A3 K12<|Ad I<|A4 fun _ K13=>wM I I<|A2 (AI (vs:=CP r) I EG (hl:=by rw [B5];omega) (hi:=CM r)) I ?_
  refine AB (AE e0 I (hs:=Kj (p:=p) (room:=room) (s:=⟨t,BW t s.l⟩) (r:=r) (Y:=Y) (rp:=rp) (l2:=l2) hw2 hB hn2 hbn hc)) I I I ?_
  rintro _ _ ⟨⟨⟩,rfl,hA⟩
  simp only [ca] at hA
  subst hA
  refine AX (AV (ys:= [.int .u8 rp.kind,.slice none 0 0,.slice none 0 0]) I I Ba (h1:=by simp [BD,Value.cells,Value.oneCell',sl]) (hr:=I)) I I ?_
  rintro _ _ rfl
  refine wA I I<|A3 K13<|AK ?_
  exact hret.gf () (Cp rfl rfl rfl Bn)
 try simp only [dz] at hg8
 refine A2 (A1 I C3) I<|A2 (A6 I Dw (v:=.int .u8 ((r.kind.toNat:Nat):Int)) (hi:=BU r)) I<|A2 (DL (b:=4#8) I I) I<|A2 (A8 I I) I<|wM I I<|Ae 32 I (fun hg14=>?_) (fun hg14=>?_)
 ·try simp only [dz] at hg14
  refine A2 (A1 I BS) I<|A2 (A1 I Bm) I<|A2 (A6 I BF (v:=.int .i64 r.un) (hi:=EJ r)) I<|wM I I<|A2 (Bt I I) I<|A2 (AC I I) I<|A2 (A8 I I) I<|A3 K6<|AH I (fun hc1=>?_) (fun hc1=>?_)
  ·try simp only [dz] at hc1
   (exfalso;revert hyes;unfold C2;simp_all;done)
  try simp only [dz] at hc1
  refine AA<|A5 K5<|A7 fun _ K15=>A4 fun _ K16=>A2 (A1 I C3) I<|A2 (AL (v:=.int .u8 2) (A6 I Dw (v:=.int .u8 ((r.kind.toNat:Nat):Int)) (hi:=BU r)) (by rw [hk];rfl)) I ?_
  refine A3 K16<|AG<|A4 fun _ K17=>A2 (Ab (i:=2) (j:=1) I I) I<|wA I I<|A3 K17<|AM I<|A4 fun _ K18=>A2 (Ab (i:=2) (j:=2) I I) I<|wA I I<|A3 K18<|Ad I<|A4 fun _ K19=>wM I I<|A2 (AI (vs:=CP r) I EG (hl:=by rw [B5];omega) (hi:=CM r)) I ?_
  refine AB (AE e0 I (hs:=Kj (p:=p) (room:=room) (s:=⟨t,BW t s.l⟩) (r:=r) (Y:=Y) (rp:=rp) (l2:=l2) hw2 hB hn2 hbn hc)) I I I ?_
  rintro _ _ ⟨⟨⟩,rfl,hA⟩
  simp only [ca] at hA
  subst hA
  refine AX (AV (ys:= [.int .u8 rp.kind,.slice none 0 0,.slice none 0 0]) I I Ba (h1:=by simp [BD,Value.cells,Value.oneCell',sl]) (hr:=I)) I I ?_
  rintro _ _ rfl
  refine wA I I<|A3 K19<|AK ?_
  exact hret.gf () (Cp rfl rfl rfl Bn)
 try simp only [dz] at hg14
 refine wK I<|wK I<|wK I<|wK I<|wK I<|A2 (A8 I I) I<|A2 (A8 I I) I<|A3 K6<|AM I<|AA<|A5 K5<|A7 fun _ K20=>A4 fun _ K21=>A2 (A1 I C3) I<|A2 (AL (v:=.int .u8 2) (A6 I Dw (v:=.int .u8 ((r.kind.toNat:Nat):Int)) (hi:=BU r)) (by rw [hk];rfl)) I ?_
 refine A3 K21<|AG<|A4 fun _ K22=>A2 (Ab (i:=2) (j:=1) I I) I<|wA I I<|A3 K22<|AM I<|A4 fun _ K23=>A2 (Ab (i:=2) (j:=2) I I) I<|wA I I<|A3 K23<|Ad I<|A4 fun _ K24=>wM I I<|A2 (AI (vs:=CP r) I EG (hl:=by rw [B5];omega) (hi:=CM r)) I ?_
 refine AB (AE e0 I (hs:=Kj (p:=p) (room:=room) (s:=⟨t,BW t s.l⟩) (r:=r) (Y:=Y) (rp:=rp) (l2:=l2) hw2 hB hn2 hbn hc)) I I I ?_
 rintro _ _ ⟨⟨⟩,rfl,hA⟩
 simp only [ca] at hA
 subst hA
 refine AX (AV (ys:= [.int .u8 rp.kind,.slice none 0 0,.slice none 0 0]) I I Ba (h1:=by simp [BD,Value.cells,Value.oneCell',sl]) (hr:=I)) I I ?_
 rintro _ _ rfl
 refine wA I I<|A3 K24<|AK ?_
 exact hret.gf () (Cp rfl rfl rfl Bn)

theorem aD{p:Nat}{room t:Int}{s:Sv1}{r:Rq}{Y:Ao}(hw:Wf room s)(hn:s.l.length<=100000000)(h1:s.tick<=t)(h2:t<=1099511627776)(hyes:(IE r && C2 t r)=true)(hk:r.kind=4#8):Ct Tryz.prog 52 [.pointer (some ⟨p,0,none⟩),.int .i64 t,.agg (CP r).toArray] [Du 24 83 5 44 p room s,Y] (fun g:Option Nat × Nat=>.tuple #[.agg [.int .u8 1,sl g.1 (CX r (BW t s.l)).length g.2,.slice none 0 0].toArray,.int .i64 0]) (fun g=> [Du 24 83 5 44 p room ⟨t,KZ r.ix (fun e=>Bi r.who e.ls) (Bc r.who r.un) (BW t s.l)⟩,Y,Aa g.1 g.2 1 3 eI (CX r (BW t s.l))]):=by
 refine AY (n:=131) Tryz.func52 I I I fun F w0 Q hret hnorm hp=>?_
 change WC _ _ _ _ _ _ _ (_::_::F)
 have hw2:=hw.tick h1 h2
 have hn2:(BW t s.l).length<=100000000:=Nat.le_trans (List.length_filterMap_le _ _) hn
 refine A4 fun _ K1=>AB (Ay (xs:=CP r) I I) I I I ?_
 rintro _ _ ⟨b5,rfl,rfl⟩
 refine AB (AZ Ce) I I I ?_
 rintro _ _ ⟨b6,rfl,rfl⟩
 refine wA I I<|A3 K1<|A4 fun _ K2=>wM I I<|wM I I<|AB (AE NM I (hs:=HS (p:=p) (room:=room) (t:=t) (s:=s) hw hn h1 h2)) I I I ?_
 rintro _ _ ⟨⟨⟩,rfl,hA⟩
 simp only [ca] at hA
 subst hA
 refine wA I I<|A3 K2<|A7 fun _ K3=>A4 fun _ K4=>wM I I<|A2 (Bj (i:=0) (j:=0) I I) I ?_
 refine A3 K4<|AM I<|AA<|A5 K3<|A7 fun _ K5=>A4 fun _ K6=>A2 (AI (vs:=CP r) I EG (hl:=by rw [B5];omega) (hi:=CM r)) I ?_
 refine AB (AE RO I (hs:=H4 (r:=r))) I I I ?_
 rintro _ _ ⟨⟨⟩,rfl,hA⟩
 simp only [ca] at hA
 subst hA
 refine A2 (Au I) I<|wM I I<|Ae 23 I (fun hg7=>?_) (fun hg7=>?_)
 ·try simp only [dz] at hg7
  refine wK I<|wK I<|wK I<|wK I<|wK I<|wK I<|wK I<|wK I<|wK I<|wK I<|wK I<|wK I<|wK I<|wK I<|wK I ?_
  refine A2 (AC I I) I<|A3 K6<|Ad I ?_
  (exfalso;revert hyes;unfold C2;simp_all;done)
 try simp only [dz] at hg7
 refine A2 (A1 I C3) I<|A2 (A6 I Dw (v:=.int .u8 ((r.kind.toNat:Nat):Int)) (hi:=BU r)) I<|A2 (DL (b:=2#8) I I) I<|wM I I<|Ae 27 I (fun hg8=>?_) (fun hg8=>?_)
 ·try simp only [dz] at hg8
  refine wK I<|wK I<|wK I<|A2 (AC I I) I<|wM I I<|A2 (A1 I BS) I<|A2 (A1 I Bm) I<|A2 (A6 I BF (v:=.int .i64 r.un) (hi:=EJ r)) I<|wM I I<|A2 (Bt I I) I<|A2 (AC I I) I<|A2 (A8 I I) I<|A3 K6<|AH I (fun hc1=>?_) (fun hc1=>?_)
  ·try simp only [dz] at hc1
   (exfalso;revert hyes;unfold C2;simp_all;done)
  try simp only [dz] at hc1
  refine AA<|A5 K5<|A7 fun _ K9=>A4 fun _ K10=>A2 (A1 I C3) I<|A2 (AL (v:=.int .u8 4) (A6 I Dw (v:=.int .u8 ((r.kind.toNat:Nat):Int)) (hi:=BU r)) (by rw [hk];rfl)) I ?_
  refine A3 K10<|AG<|A4 fun _ K11=>A2 (Ab (i:=4) (j:=1) I I) I<|wA I I<|A3 K11<|AM I<|A4 fun _ K12=>A2 (Ab (i:=4) (j:=2) I I) I<|wA I I<|A3 K12<|AM I<|A4 fun _ K13=>A2 (Ab (i:=4) (j:=4) I I) I<|wA I I ?_
  refine A3 K13<|Ad I<|A4 fun _ K14=>wM I I<|A2 (AI (vs:=CP r) I EG (hl:=by rw [B5];omega) (hi:=CM r)) I ?_
  refine AB (AE VB I (hs:=Ig (p:=p) (room:=room) (s:=⟨t,BW t s.l⟩) (r:=r) hw2 hn2)) I I I ?_
  rintro _ _ ⟨⟨a63,c63⟩,rfl,hA⟩
  simp only [ca] at hA
  subst hA
  refine AX (AV (ys:= [.int .u8 1,sl a63 (CX r (BW t s.l)).length c63,.slice none 0 0]) I I Ba (h1:=by simp [BD,Value.cells,Value.oneCell',sl]) (hr:=I)) I I ?_
  rintro _ _ rfl
  refine wA I I<|A3 K14<|AK ?_
  exact hret.gf (a63,c63) (Cp rfl rfl rfl Bn)
 try simp only [dz] at hg8
 refine A2 (A1 I C3) I<|A2 (A6 I Dw (v:=.int .u8 ((r.kind.toNat:Nat):Int)) (hi:=BU r)) I<|A2 (DL (b:=4#8) I I) I<|A2 (A8 I I) I<|wM I I<|Ae 32 I (fun hg15=>?_) (fun hg15=>?_)
 ·try simp only [dz] at hg15
  refine A2 (A1 I BS) I<|A2 (A1 I Bm) I<|A2 (A6 I BF (v:=.int .i64 r.un) (hi:=EJ r)) I<|wM I I<|A2 (Bt I I) I<|A2 (AC I I) I<|A2 (A8 I I) I<|A3 K6<|AH I (fun hc1=>?_) (fun hc1=>?_)
  ·try simp only [dz] at hc1
   (exfalso;revert hyes;unfold C2;simp_all;done)
  try simp only [dz] at hc1
  refine AA<|A5 K5<|A7 fun _ K16=>A4 fun _ K17=>A2 (A1 I C3) I<|A2 (AL (v:=.int .u8 4) (A6 I Dw (v:=.int .u8 ((r.kind.toNat:Nat):Int)) (hi:=BU r)) (by rw [hk];rfl)) I ?_
  refine A3 K17<|AG<|A4 fun _ K18=>A2 (Ab (i:=4) (j:=1) I I) I<|wA I I<|A3 K18<|AM I<|A4 fun _ K19=>A2 (Ab (i:=4) (j:=2) I I) I<|wA I I<|A3 K19<|AM I<|A4 fun _ K20=>A2 (Ab (i:=4) (j:=4) I I) I<|wA I I ?_
  refine A3 K20<|Ad I<|A4 fun _ K21=>wM I I<|A2 (AI (vs:=CP r) I EG (hl:=by rw [B5];omega) (hi:=CM r)) I ?_
  refine AB (AE VB I (hs:=Ig (p:=p) (room:=room) (s:=⟨t,BW t s.l⟩) (r:=r) hw2 hn2)) I I I ?_
  rintro _ _ ⟨⟨a63,c63⟩,rfl,hA⟩
  simp only [ca] at hA
  subst hA
  refine AX (AV (ys:= [.int .u8 1,sl a63 (CX r (BW t s.l)).length c63,.slice none 0 0]) I I Ba (h1:=by simp [BD,Value.cells,Value.oneCell',sl]) (hr:=I)) I I ?_
  rintro _ _ rfl
  refine wA I I<|A3 K21<|AK ?_
  exact hret.gf (a63,c63) (Cp rfl rfl rfl Bn)
 try simp only [dz] at hg15
 refine wK I<|wK I<|wK I<|wK I<|wK I<|A2 (A8 I I) I<|A2 (A8 I I) I<|A3 K6<|AM I<|AA<|A5 K5<|A7 fun _ K22=>A4 fun _ K23=>A2 (A1 I C3) I<|A2 (AL (v:=.int .u8 4) (A6 I Dw (v:=.int .u8 ((r.kind.toNat:Nat):Int)) (hi:=BU r)) (by rw [hk];rfl)) I ?_
 refine A3 K23<|AG<|A4 fun _ K24=>A2 (Ab (i:=4) (j:=1) I I) I<|wA I I<|A3 K24<|AM I<|A4 fun _ K25=>A2 (Ab (i:=4) (j:=2) I I) I<|wA I I<|A3 K25<|AM I<|A4 fun _ K26=>A2 (Ab (i:=4) (j:=4) I I) I<|wA I I ?_
 refine A3 K26<|Ad I<|A4 fun _ K27=>wM I I<|A2 (AI (vs:=CP r) I EG (hl:=by rw [B5];omega) (hi:=CM r)) I ?_
 refine AB (AE VB I (hs:=Ig (p:=p) (room:=room) (s:=⟨t,BW t s.l⟩) (r:=r) hw2 hn2)) I I I ?_
 rintro _ _ ⟨⟨a63,c63⟩,rfl,hA⟩
 simp only [ca] at hA
 subst hA
 refine AX (AV (ys:= [.int .u8 1,sl a63 (CX r (BW t s.l)).length c63,.slice none 0 0]) I I Ba (h1:=by simp [BD,Value.cells,Value.oneCell',sl]) (hr:=I)) I I ?_
 rintro _ _ rfl
 refine wA I I<|A3 K27<|AK ?_
 exact hret.gf (a63,c63) (Cp rfl rfl rfl Bn)

theorem aF{p:Nat}{room t:Int}{s:Sv1}{r:Rq}{Y:Ao}(hw:Wf room s)(hn:s.l.length<=100000000)(h1:s.tick<=t)(h2:t<=1099511627776)(hyes:(IE r && C2 t r)=true)(hk:r.kind=5#8):Ct Tryz.prog 52 [.pointer (some ⟨p,0,none⟩),.int .i64 t,.agg (CP r).toArray] [Du 24 83 5 44 p room s,Y] (fun g:Option Nat × Nat=>.tuple #[.agg [.int .u8 1,sl g.1 (CX r (BW t s.l)).length g.2,.slice none 0 0].toArray,.int .i64 0]) (fun g=> [Du 24 83 5 44 p room ⟨t,KZ r.ix (fun e=>Bi r.who e.ls) (CC r.who) (BW t s.l)⟩,Y,Aa g.1 g.2 1 3 eI (CX r (BW t s.l))]):=by
 refine AY (n:=131) Tryz.func52 I I I fun F w0 Q hret hnorm hp=>?_
 change WC _ _ _ _ _ _ _ (_::_::F)
 have hw2:=hw.tick h1 h2
 have hn2:(BW t s.l).length<=100000000:=Nat.le_trans (List.length_filterMap_le _ _) hn
 refine A4 fun _ K1=>AB (Ay (xs:=CP r) I I) I I I ?_
 rintro _ _ ⟨b5,rfl,rfl⟩
 refine AB (AZ Ce) I I I ?_
 rintro _ _ ⟨b6,rfl,rfl⟩
 refine wA I I<|A3 K1<|A4 fun _ K2=>wM I I<|wM I I<|AB (AE NM I (hs:=HS (p:=p) (room:=room) (t:=t) (s:=s) hw hn h1 h2)) I I I ?_
 rintro _ _ ⟨⟨⟩,rfl,hA⟩
 simp only [ca] at hA
 subst hA
 refine wA I I<|A3 K2<|A7 fun _ K3=>A4 fun _ K4=>wM I I<|A2 (Bj (i:=0) (j:=0) I I) I ?_
 refine A3 K4<|AM I<|AA<|A5 K3<|A7 fun _ K5=>A4 fun _ K6=>A2 (AI (vs:=CP r) I EG (hl:=by rw [B5];omega) (hi:=CM r)) I ?_
 refine AB (AE RO I (hs:=H4 (r:=r))) I I I ?_
 rintro _ _ ⟨⟨⟩,rfl,hA⟩
 simp only [ca] at hA
 subst hA
 refine A2 (Au I) I<|wM I I<|Ae 23 I (fun hg7=>?_) (fun hg7=>?_)
 ·try simp only [dz] at hg7
  refine wK I<|wK I<|wK I<|wK I<|wK I<|wK I<|wK I<|wK I<|wK I<|wK I<|wK I<|wK I<|wK I<|wK I<|wK I ?_
  refine A2 (AC I I) I<|A3 K6<|Ad I ?_
  (exfalso;revert hyes;unfold C2;simp_all;done)
 try simp only [dz] at hg7
 refine A2 (A1 I C3) I<|A2 (A6 I Dw (v:=.int .u8 ((r.kind.toNat:Nat):Int)) (hi:=BU r)) I<|A2 (DL (b:=2#8) I I) I<|wM I I<|Ae 27 I (fun hg8=>?_) (fun hg8=>?_)
 ·try simp only [dz] at hg8
  refine wK I<|wK I<|wK I<|A2 (AC I I) I<|wM I I<|A2 (A1 I BS) I<|A2 (A1 I Bm) I<|A2 (A6 I BF (v:=.int .i64 r.un) (hi:=EJ r)) I<|wM I I<|A2 (Bt I I) I<|A2 (AC I I) I<|A2 (A8 I I) I<|A3 K6<|AH I (fun hc1=>?_) (fun hc1=>?_)
  ·try simp only [dz] at hc1
   (exfalso;revert hyes;unfold C2;simp_all;done)
  try simp only [dz] at hc1
  refine AA<|A5 K5<|A7 fun _ K9=>A4 fun _ K10=>A2 (A1 I C3) I<|A2 (AL (v:=.int .u8 5) (A6 I Dw (v:=.int .u8 ((r.kind.toNat:Nat):Int)) (hi:=BU r)) (by rw [hk];rfl)) I ?_
  refine A3 K10<|AG<|A4 fun _ K11=>A2 (Ab (i:=5) (j:=1) I I) I<|wA I I<|A3 K11<|AM I<|A4 fun _ K12=>A2 (Ab (i:=5) (j:=2) I I) I<|wA I I<|A3 K12<|AM I<|A4 fun _ K13=>A2 (Ab (i:=5) (j:=4) I I) I<|wA I I ?_
  refine A3 K13<|AM I<|A4 fun _ K14=>A2 (Ab (i:=5) (j:=5) I I) I<|wA I I<|A3 K14<|Ad I<|A4 fun _ K15=>wM I I<|A2 (AI (vs:=CP r) I EG (hl:=by rw [B5];omega) (hi:=CM r)) I ?_
  refine AB (AE VB I (hs:=Ih (p:=p) (room:=room) (s:=⟨t,BW t s.l⟩) (r:=r) hw2 hn2)) I I I ?_
  rintro _ _ ⟨⟨a63,c63⟩,rfl,hA⟩
  simp only [ca] at hA
  subst hA
  refine AX (AV (ys:= [.int .u8 1,sl a63 (CX r (BW t s.l)).length c63,.slice none 0 0]) I I Ba (h1:=by simp [BD,Value.cells,Value.oneCell',sl]) (hr:=I)) I I ?_
  rintro _ _ rfl
  refine wA I I<|A3 K15<|AK ?_
  exact hret.gf (a63,c63) (Cp rfl rfl rfl Bn)
 try simp only [dz] at hg8
 refine A2 (A1 I C3) I<|A2 (A6 I Dw (v:=.int .u8 ((r.kind.toNat:Nat):Int)) (hi:=BU r)) I<|A2 (DL (b:=4#8) I I) I<|A2 (A8 I I) I<|wM I I<|Ae 32 I (fun hg16=>?_) (fun hg16=>?_)
 ·try simp only [dz] at hg16
  refine A2 (A1 I BS) I<|A2 (A1 I Bm) I<|A2 (A6 I BF (v:=.int .i64 r.un) (hi:=EJ r)) I<|wM I I<|A2 (Bt I I) I<|A2 (AC I I) I<|A2 (A8 I I) I<|A3 K6<|AH I (fun hc1=>?_) (fun hc1=>?_)
  ·try simp only [dz] at hc1
   (exfalso;revert hyes;unfold C2;simp_all;done)
  try simp only [dz] at hc1
  refine AA<|A5 K5<|A7 fun _ K17=>A4 fun _ K18=>A2 (A1 I C3) I<|A2 (AL (v:=.int .u8 5) (A6 I Dw (v:=.int .u8 ((r.kind.toNat:Nat):Int)) (hi:=BU r)) (by rw [hk];rfl)) I ?_
  refine A3 K18<|AG<|A4 fun _ K19=>A2 (Ab (i:=5) (j:=1) I I) I<|wA I I<|A3 K19<|AM I<|A4 fun _ K20=>A2 (Ab (i:=5) (j:=2) I I) I<|wA I I<|A3 K20<|AM I<|A4 fun _ K21=>A2 (Ab (i:=5) (j:=4) I I) I<|wA I I ?_
  refine A3 K21<|AM I<|A4 fun _ K22=>A2 (Ab (i:=5) (j:=5) I I) I<|wA I I<|A3 K22<|Ad I<|A4 fun _ K23=>wM I I<|A2 (AI (vs:=CP r) I EG (hl:=by rw [B5];omega) (hi:=CM r)) I ?_
  refine AB (AE VB I (hs:=Ih (p:=p) (room:=room) (s:=⟨t,BW t s.l⟩) (r:=r) hw2 hn2)) I I I ?_
  rintro _ _ ⟨⟨a63,c63⟩,rfl,hA⟩
  simp only [ca] at hA
  subst hA
  refine AX (AV (ys:= [.int .u8 1,sl a63 (CX r (BW t s.l)).length c63,.slice none 0 0]) I I Ba (h1:=by simp [BD,Value.cells,Value.oneCell',sl]) (hr:=I)) I I ?_
  rintro _ _ rfl
  refine wA I I<|A3 K23<|AK ?_
  exact hret.gf (a63,c63) (Cp rfl rfl rfl Bn)
 try simp only [dz] at hg16
 refine wK I<|wK I<|wK I<|wK I<|wK I<|A2 (A8 I I) I<|A2 (A8 I I) I<|A3 K6<|AM I<|AA<|A5 K5<|A7 fun _ K24=>A4 fun _ K25=>A2 (A1 I C3) I<|A2 (AL (v:=.int .u8 5) (A6 I Dw (v:=.int .u8 ((r.kind.toNat:Nat):Int)) (hi:=BU r)) (by rw [hk];rfl)) I ?_
 refine A3 K25<|AG<|A4 fun _ K26=>A2 (Ab (i:=5) (j:=1) I I) I<|wA I I<|A3 K26<|AM I<|A4 fun _ K27=>A2 (Ab (i:=5) (j:=2) I I) I<|wA I I<|A3 K27<|AM I<|A4 fun _ K28=>A2 (Ab (i:=5) (j:=4) I I) I<|wA I I ?_
 refine A3 K28<|AM I<|A4 fun _ K29=>A2 (Ab (i:=5) (j:=5) I I) I<|wA I I<|A3 K29<|Ad I<|A4 fun _ K30=>wM I I<|A2 (AI (vs:=CP r) I EG (hl:=by rw [B5];omega) (hi:=CM r)) I ?_
 refine AB (AE VB I (hs:=Ih (p:=p) (room:=room) (s:=⟨t,BW t s.l⟩) (r:=r) hw2 hn2)) I I I ?_
 rintro _ _ ⟨⟨a63,c63⟩,rfl,hA⟩
 simp only [ca] at hA
 subst hA
 refine AX (AV (ys:= [.int .u8 1,sl a63 (CX r (BW t s.l)).length c63,.slice none 0 0]) I I Ba (h1:=by simp [BD,Value.cells,Value.oneCell',sl]) (hr:=I)) I I ?_
 rintro _ _ rfl
 refine wA I I<|A3 K30<|AK ?_
 exact hret.gf (a63,c63) (Cp rfl rfl rfl Bn)
end Go.Proofs.YtoakfknnaiapiaaGreat
