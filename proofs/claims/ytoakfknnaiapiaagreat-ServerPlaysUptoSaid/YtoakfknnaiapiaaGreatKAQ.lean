/-
  Contracts of functions that the claim reaches, or the logic and the plain laws that they rest on, or the row over them. (Conditions: none beyond the statement.)
-/
import Derived.Test.YtoakfknnaiapiaaGreatKAP
set_option linter.all false
namespace Go.Proofs.YtoakfknnaiapiaaGreat
open Go.RowKit Go.SL Go.ShM Go.SvM
set_option maxHeartbeats 1000000
set_option maxRecDepth 20000
set_option linter.all false

theorem V5{p at' ln':Nat}{room tick t:Int}{kms:List KM}{ka:Option Nat}{kc:Nat}{r:Rq}{Y:Ao}(hn:kms.length<=100000000)(hls: ∀k∈kms,k.e.ls.length<=100000)(h1:tick<=t)(h2:t<=1099511627776)(hyes:(IE r && C2 t r)=true)(hk:r.kind=3#8)(hat:r.at_=((at':Nat):Int))(hln:r.len=((ln':Nat):Int))(ha1:at'<=33554432)(ha2:ln'<=131072)(hf:Ed (r.ix,r.num) (BW t (kms.map KM.e))=none):Ct Tryz.prog 52 [.pointer (some ⟨p,0,none⟩),.int .i64 t,.agg (CP r).toArray] [cl p 24 [.int .i64 room,.int .i64 tick,sl ka kms.length kc],Aa ka kc 19 83 BH kms,star (CQ 5 44) kms,Y] (fun g: {g:List KM × Option Nat × Nat // g.1.map KM.e=(BW t (kms.map KM.e))} =>.tuple #[.agg [.int .u8 6,.slice none 0 0,.slice none 0 0].toArray,.int .i64 0]) (fun g=> [cl p 24 [.int .i64 room,.int .i64 t,sl g.1.2.1 g.1.1.length g.1.2.2],Aa g.1.2.1 g.1.2.2 19 83 BH g.1.1,star (CQ 5 44) g.1.1,Y]):=by
 refine AY (n:=131) Tryz.func52 I I I fun F w0 Q hret hnorm hp=>?_
 change WC _ _ _ _ _ _ _ (_::_::_::_::F)
 refine A4 fun _ K1=>AB (Ay (xs:=CP r) I I) I I I ?_
 rintro _ _ ⟨b5,rfl,rfl⟩
 refine AB (AZ Ce) I I I ?_
 rintro _ _ ⟨b6,rfl,rfl⟩
 refine wA I I<|A3 K1<|A4 fun _ K2=>wM I I<|wM I I<|AB (AE NM I (hs:=Jv (p:=p) (kms:=kms) (ka:=ka) (kc:=kc) (room:=room) (tick:=tick) (t1:=t) h1 h2 hn hls)) I I I ?_
 rintro _ _ ⟨⟨⟨kms2,ka2,kc2⟩,hk2⟩,rfl,hA⟩
 simp only [ca] at hA
 subst hA
 (try dsimp only at hk2)
 refine wA I I<|A3 K2<|A7 fun _ K3=>A4 fun _ K4=>wM I I<|A2 (Bj (i:=0) (j:=0) I I) I ?_
 refine A3 K4<|AM I<|AA<|A5 K3<|A7 fun _ K5=>A4 fun _ K6=>A2 (AI (vs:=CP r) I EG (hl:=by rw [B5];omega) (hi:=CM r)) I ?_
 refine AB (AE RO I (hs:=H4 (r:=r))) I I I ?_
 rintro _ _ ⟨⟨⟩,rfl,hA⟩
 simp only [ca] at hA
 subst hA
 refine A2 (Au I) I<|wM I I<|Ae 23 I (fun hg7=>?_) (fun hg7=>?_)
 ·try simp only [dz] at hg7
  refine wK I<|wK I<|wK I<|wK I<|wK I<|wK I<|wK I<|wK I<|wK I<|wK I<|wK I<|wK I<|wK I<|wK I<|wK I ?_
  refine A2 (AC I I) I<|A3 K6<|Ad I ?_
  (exfalso;revert hyes;unfold C2;simp_all;done)
 try simp only [dz] at hg7
 refine A2 (A1 I C3) I<|A2 (A6 I Dw (v:=.int .u8 ((r.kind.toNat:Nat):Int)) (hi:=BU r)) I<|A2 (DL (b:=2#8) I I) I<|wM I I<|Ae 27 I (fun hg8=>?_) (fun hg8=>?_)
 ·try simp only [dz] at hg8
  refine wK I<|wK I<|wK I<|A2 (AC I I) I<|wM I I<|A2 (A1 I BS) I<|A2 (A1 I Bm) I<|A2 (A6 I BF (v:=.int .i64 r.un) (hi:=EJ r)) I<|wM I I<|A2 (Bt I I) I<|A2 (AC I I) I<|A2 (A8 I I) I<|A3 K6<|AH I (fun hc1=>?_) (fun hc1=>?_)
  ·try simp only [dz] at hc1
   (exfalso;revert hyes;unfold C2;simp_all;done)
  try simp only [dz] at hc1
  refine AA<|A5 K5<|A7 fun _ K9=>A4 fun _ K10=>A2 (A1 I C3) I<|A2 (AL (v:=.int .u8 3) (A6 I Dw (v:=.int .u8 ((r.kind.toNat:Nat):Int)) (hi:=BU r)) (by rw [hk];rfl)) I ?_
  refine A3 K10<|AG<|A4 fun _ K11=>A2 (Ab (i:=3) (j:=1) I I) I<|wA I I<|A3 K11<|AM I<|A4 fun _ K12=>A2 (Ab (i:=3) (j:=2) I I) I<|wA I I<|A3 K12<|AM I<|A4 fun _ K13=>A2 (Ab (i:=3) (j:=4) I I) I<|wA I I ?_
  refine A3 K13<|AM I<|A4 fun _ K14=>A2 (Ab (i:=3) (j:=5) I I) I<|wA I I<|A3 K14<|AM I<|AA<|A5 K9<|A4 fun _ K15=>wM I I<|A2 (A1 I CU) I<|A2 (AI (vs:=r.ix.l.flatMap (eU .u8)) I Cv (hl:=by rw [B5];omega) (hi:=Ci r)) I ?_
  refine A2 (A1 I Bq) I<|A2 (A6 I BF (v:=.int .i64 r.num) (hi:=D4 r)) I<|Cl (fun w h=>B1 (a:=ka2) (cap:=kc2) (e:=19) (T:=83) (f:=BH) (l:=kms2) Bf h) (fun hkf=>?_)
  have hV:Sv [Aa ka2 kc2 19 83 BH kms2] (sl ka2 kms2.length kc2) 19 BH kms2 (ka2.map fun g=>⟨g,0,none⟩) kc2:=BM encKM hkf.1 hkf.2
  refine AB (AE Ii I (hs:=DX (X:=Aa ka2 kc2 19 83 BH kms2) (p:=p) (kvs:=kms2.map KM.kv) (room:=room) (tick:=t) (ix:=r.ix) (num:=r.num) (Et hV) (by rw [List.length_map];have q:=congrArg List.length hk2;have q2:(BW t (kms.map KM.e)).length<=(kms.map KM.e).length:=List.length_filterMap_le _ _;rw [List.length_map] at q q2;omega))) I I I ?_
  rintro _ _ ⟨⟨⟩,rfl,hA⟩
  simp only [ca] at hA
  subst hA
  rw [CO,hk2,hf]
  rw [show GA none= -1 from rfl]
  refine wA I I<|A3 K15<|A7 fun _ K16=>A7 fun _ K17=>Am CE (fun _=>2) ?_
  refine jM 0 I I I hp<|jP 1 I (AL (v:=.bool true) (Bt (i:= -1) (j:=0) I I) (congrArg Value.bool (by decide))) I hp<|jM 2 I I I hp<|jK 3 I I hp<|jK 4 I I hp<|jK 5 I I hp<|jK 6 I I hp<|jK 7 I I hp<|jK 8 I I hp<|jK 9 I I hp<|jK 10 I I hp<|jK 11 I I hp<|jK 12 I I hp<|jK 13 I I hp<|jK 14 I I hp ?_
  refine jP 15 I (AC I I) I hp<|jM 16 I I I hp<|jK 17 I I hp<|jK 18 I I hp<|jK 19 I I hp<|jK 20 I I hp<|jK 21 I I hp<|jK 22 I I hp<|jK 23 I I hp<|jK 24 I I hp<|jK 25 I I hp<|jK 26 I I hp<|jK 27 I I hp<|jK 28 I I hp<|jK 29 I I hp ?_
  refine jK 30 I I hp<|jK 31 I I hp<|jP 32 I (AC I I) I hp<|jD<|A5 K17<|Ad I<|A4 fun _ K18=>A2 (AL (v:=.agg ([.int .u8 6,.slice none 0 0,.slice none 0 0]:List Value).toArray) (Ah Bp I) I) I<|AX (AV (ys:= [.int .u8 6,.slice none 0 0,.slice none 0 0]) I I Ba (h1:=by simp [BD,Value.cells,Value.oneCell',sl]) (hr:=I)) I I ?_
  rintro _ _ rfl
  refine wA I I<|A3 K18<|AK ?_
  exact hret.gf ⟨(kms2,ka2,kc2),hk2⟩ (Cp rfl rfl rfl Bn)
 try simp only [dz] at hg8
 refine A2 (A1 I C3) I<|A2 (A6 I Dw (v:=.int .u8 ((r.kind.toNat:Nat):Int)) (hi:=BU r)) I<|A2 (DL (b:=4#8) I I) I<|A2 (A8 I I) I<|wM I I<|Ae 32 I (fun hg19=>?_) (fun hg19=>?_)
 ·try simp only [dz] at hg19
  refine A2 (A1 I BS) I<|A2 (A1 I Bm) I<|A2 (A6 I BF (v:=.int .i64 r.un) (hi:=EJ r)) I<|wM I I<|A2 (Bt I I) I<|A2 (AC I I) I<|A2 (A8 I I) I<|A3 K6<|AH I (fun hc1=>?_) (fun hc1=>?_)
  ·try simp only [dz] at hc1
   (exfalso;revert hyes;unfold C2;simp_all;done)
  try simp only [dz] at hc1
  refine AA<|A5 K5<|A7 fun _ K20=>A4 fun _ K21=>A2 (A1 I C3) I<|A2 (AL (v:=.int .u8 3) (A6 I Dw (v:=.int .u8 ((r.kind.toNat:Nat):Int)) (hi:=BU r)) (by rw [hk];rfl)) I ?_
  refine A3 K21<|AG<|A4 fun _ K22=>A2 (Ab (i:=3) (j:=1) I I) I<|wA I I<|A3 K22<|AM I<|A4 fun _ K23=>A2 (Ab (i:=3) (j:=2) I I) I<|wA I I<|A3 K23<|AM I<|A4 fun _ K24=>A2 (Ab (i:=3) (j:=4) I I) I<|wA I I ?_
  refine A3 K24<|AM I<|A4 fun _ K25=>A2 (Ab (i:=3) (j:=5) I I) I<|wA I I<|A3 K25<|AM I<|AA<|A5 K20<|A4 fun _ K26=>wM I I<|A2 (A1 I CU) I<|A2 (AI (vs:=r.ix.l.flatMap (eU .u8)) I Cv (hl:=by rw [B5];omega) (hi:=Ci r)) I ?_
  refine A2 (A1 I Bq) I<|A2 (A6 I BF (v:=.int .i64 r.num) (hi:=D4 r)) I<|Cl (fun w h=>B1 (a:=ka2) (cap:=kc2) (e:=19) (T:=83) (f:=BH) (l:=kms2) Bf h) (fun hkf=>?_)
  have hV:Sv [Aa ka2 kc2 19 83 BH kms2] (sl ka2 kms2.length kc2) 19 BH kms2 (ka2.map fun g=>⟨g,0,none⟩) kc2:=BM encKM hkf.1 hkf.2
  refine AB (AE Ii I (hs:=DX (X:=Aa ka2 kc2 19 83 BH kms2) (p:=p) (kvs:=kms2.map KM.kv) (room:=room) (tick:=t) (ix:=r.ix) (num:=r.num) (Et hV) (by rw [List.length_map];have q:=congrArg List.length hk2;have q2:(BW t (kms.map KM.e)).length<=(kms.map KM.e).length:=List.length_filterMap_le _ _;rw [List.length_map] at q q2;omega))) I I I ?_
  rintro _ _ ⟨⟨⟩,rfl,hA⟩
  simp only [ca] at hA
  subst hA
  rw [CO,hk2,hf]
  rw [show GA none= -1 from rfl]
  refine wA I I<|A3 K26<|A7 fun _ K27=>A7 fun _ K28=>Am CE (fun _=>2) ?_
  refine jM 0 I I I hp<|jP 1 I (AL (v:=.bool true) (Bt (i:= -1) (j:=0) I I) (congrArg Value.bool (by decide))) I hp<|jM 2 I I I hp<|jK 3 I I hp<|jK 4 I I hp<|jK 5 I I hp<|jK 6 I I hp<|jK 7 I I hp<|jK 8 I I hp<|jK 9 I I hp<|jK 10 I I hp<|jK 11 I I hp<|jK 12 I I hp<|jK 13 I I hp<|jK 14 I I hp ?_
  refine jP 15 I (AC I I) I hp<|jM 16 I I I hp<|jK 17 I I hp<|jK 18 I I hp<|jK 19 I I hp<|jK 20 I I hp<|jK 21 I I hp<|jK 22 I I hp<|jK 23 I I hp<|jK 24 I I hp<|jK 25 I I hp<|jK 26 I I hp<|jK 27 I I hp<|jK 28 I I hp<|jK 29 I I hp ?_
  refine jK 30 I I hp<|jK 31 I I hp<|jP 32 I (AC I I) I hp<|jD<|A5 K28<|Ad I<|A4 fun _ K29=>A2 (AL (v:=.agg ([.int .u8 6,.slice none 0 0,.slice none 0 0]:List Value).toArray) (Ah Bp I) I) I<|AX (AV (ys:= [.int .u8 6,.slice none 0 0,.slice none 0 0]) I I Ba (h1:=by simp [BD,Value.cells,Value.oneCell',sl]) (hr:=I)) I I ?_
  rintro _ _ rfl
  refine wA I I<|A3 K29<|AK ?_
  exact hret.gf ⟨(kms2,ka2,kc2),hk2⟩ (Cp rfl rfl rfl Bn)
 try simp only [dz] at hg19
 refine wK I<|wK I<|wK I<|wK I<|wK I<|A2 (A8 I I) I<|A2 (A8 I I) I<|A3 K6<|AM I<|AA<|A5 K5<|A7 fun _ K30=>A4 fun _ K31=>A2 (A1 I C3) I<|A2 (AL (v:=.int .u8 3) (A6 I Dw (v:=.int .u8 ((r.kind.toNat:Nat):Int)) (hi:=BU r)) (by rw [hk];rfl)) I ?_
 refine A3 K31<|AG<|A4 fun _ K32=>A2 (Ab (i:=3) (j:=1) I I) I<|wA I I<|A3 K32<|AM I<|A4 fun _ K33=>A2 (Ab (i:=3) (j:=2) I I) I<|wA I I<|A3 K33<|AM I<|A4 fun _ K34=>A2 (Ab (i:=3) (j:=4) I I) I<|wA I I ?_
 refine A3 K34<|AM I<|A4 fun _ K35=>A2 (Ab (i:=3) (j:=5) I I) I<|wA I I<|A3 K35<|AM I<|AA<|A5 K30<|A4 fun _ K36=>wM I I<|A2 (A1 I CU) I<|A2 (AI (vs:=r.ix.l.flatMap (eU .u8)) I Cv (hl:=by rw [B5];omega) (hi:=Ci r)) I ?_
 refine A2 (A1 I Bq) I<|A2 (A6 I BF (v:=.int .i64 r.num) (hi:=D4 r)) I<|Cl (fun w h=>B1 (a:=ka2) (cap:=kc2) (e:=19) (T:=83) (f:=BH) (l:=kms2) Bf h) (fun hkf=>?_)
 have hV:Sv [Aa ka2 kc2 19 83 BH kms2] (sl ka2 kms2.length kc2) 19 BH kms2 (ka2.map fun g=>⟨g,0,none⟩) kc2:=BM encKM hkf.1 hkf.2
 refine AB (AE Ii I (hs:=DX (X:=Aa ka2 kc2 19 83 BH kms2) (p:=p) (kvs:=kms2.map KM.kv) (room:=room) (tick:=t) (ix:=r.ix) (num:=r.num) (Et hV) (by rw [List.length_map];have q:=congrArg List.length hk2;have q2:(BW t (kms.map KM.e)).length<=(kms.map KM.e).length:=List.length_filterMap_le _ _;rw [List.length_map] at q q2;omega))) I I I ?_
 rintro _ _ ⟨⟨⟩,rfl,hA⟩
 simp only [ca] at hA
 subst hA
 rw [CO,hk2,hf]
 rw [show GA none= -1 from rfl]
 refine wA I I<|A3 K36<|A7 fun _ K37=>A7 fun _ K38=>Am CE (fun _=>2) ?_
 refine jM 0 I I I hp<|jP 1 I (AL (v:=.bool true) (Bt (i:= -1) (j:=0) I I) (congrArg Value.bool (by decide))) I hp<|jM 2 I I I hp<|jK 3 I I hp<|jK 4 I I hp<|jK 5 I I hp<|jK 6 I I hp<|jK 7 I I hp<|jK 8 I I hp<|jK 9 I I hp<|jK 10 I I hp<|jK 11 I I hp<|jK 12 I I hp<|jK 13 I I hp<|jK 14 I I hp ?_
 refine jP 15 I (AC I I) I hp<|jM 16 I I I hp<|jK 17 I I hp<|jK 18 I I hp<|jK 19 I I hp<|jK 20 I I hp<|jK 21 I I hp<|jK 22 I I hp<|jK 23 I I hp<|jK 24 I I hp<|jK 25 I I hp<|jK 26 I I hp<|jK 27 I I hp<|jK 28 I I hp<|jK 29 I I hp ?_
 refine jK 30 I I hp<|jK 31 I I hp<|jP 32 I (AC I I) I hp<|jD<|A5 K38<|Ad I<|A4 fun _ K39=>A2 (AL (v:=.agg ([.int .u8 6,.slice none 0 0,.slice none 0 0]:List Value).toArray) (Ah Bp I) I) I<|AX (AV (ys:= [.int .u8 6,.slice none 0 0,.slice none 0 0]) I I Ba (h1:=by simp [BD,Value.cells,Value.oneCell',sl]) (hr:=I)) I I ?_
 rintro _ _ rfl
 refine wA I I<|A3 K39<|AK ?_
 exact hret.gf ⟨(kms2,ka2,kc2),hk2⟩ (Cp rfl rfl rfl Bn)

theorem Xu{p at' ln':Nat}{room tick t:Int}{kms:List KM}{ka:Option Nat}{kc:Nat}{r:Rq}{Y:Ao}{i0:Nat}{e:Kp}(hn:kms.length<=100000000)(hls: ∀k∈kms,k.e.ls.length<=100000)(h1:tick<=t)(h2:t<=1099511627776)(hyes:(IE r && C2 t r)=true)(hk:r.kind=3#8)(hat:r.at_=((at':Nat):Int))(hln:r.len=((ln':Nat):Int))(ha1:at'<=33554432)(ha2:ln'<=131072)(hf:Ed (r.ix,r.num) (BW t (kms.map KM.e))=some i0)(he:(BW t (kms.map KM.e))[i0]? =some e)(hbl:e.b.length<=33554432)(h3:e.b.length<at'+ln'):Ct Tryz.prog 52 [.pointer (some ⟨p,0,none⟩),.int .i64 t,.agg (CP r).toArray] [cl p 24 [.int .i64 room,.int .i64 tick,sl ka kms.length kc],Aa ka kc 19 83 BH kms,star (CQ 5 44) kms,Y] (fun g: {g:List KM × Option Nat × Nat // g.1.map KM.e=(BW t (kms.map KM.e))} =>.tuple #[.agg [.int .u8 6,.slice none 0 0,.slice none 0 0].toArray,.int .i64 0]) (fun g=> [cl p 24 [.int .i64 room,.int .i64 t,sl g.1.2.1 g.1.1.length g.1.2.2],Aa g.1.2.1 g.1.2.2 19 83 BH g.1.1,star (CQ 5 44) g.1.1,Y]):=by
 refine AY (n:=131) Tryz.func52 I I I fun F w0 Q hret hnorm hp=>?_
 change WC _ _ _ _ _ _ _ (_::_::_::_::F)
 refine A4 fun _ K1=>AB (Ay (xs:=CP r) I I) I I I ?_
 rintro _ _ ⟨b5,rfl,rfl⟩
 refine AB (AZ Ce) I I I ?_
 rintro _ _ ⟨b6,rfl,rfl⟩
 refine wA I I<|A3 K1<|A4 fun _ K2=>wM I I<|wM I I<|AB (AE NM I (hs:=Jv (p:=p) (kms:=kms) (ka:=ka) (kc:=kc) (room:=room) (tick:=tick) (t1:=t) h1 h2 hn hls)) I I I ?_
 rintro _ _ ⟨⟨⟨kms2,ka2,kc2⟩,hk2⟩,rfl,hA⟩
 simp only [ca] at hA
 subst hA
 (try dsimp only at hk2)
 refine wA I I<|A3 K2<|A7 fun _ K3=>A4 fun _ K4=>wM I I<|A2 (Bj (i:=0) (j:=0) I I) I ?_
 refine A3 K4<|AM I<|AA<|A5 K3<|A7 fun _ K5=>A4 fun _ K6=>A2 (AI (vs:=CP r) I EG (hl:=by rw [B5];omega) (hi:=CM r)) I ?_
 refine AB (AE RO I (hs:=H4 (r:=r))) I I I ?_
 rintro _ _ ⟨⟨⟩,rfl,hA⟩
 simp only [ca] at hA
 subst hA
 refine A2 (Au I) I<|wM I I<|Ae 23 I (fun hg7=>?_) (fun hg7=>?_)
 ·try simp only [dz] at hg7
  refine wK I<|wK I<|wK I<|wK I<|wK I<|wK I<|wK I<|wK I<|wK I<|wK I<|wK I<|wK I<|wK I<|wK I<|wK I ?_
  refine A2 (AC I I) I<|A3 K6<|Ad I ?_
  (exfalso;revert hyes;unfold C2;simp_all;done)
 try simp only [dz] at hg7
 refine A2 (A1 I C3) I<|A2 (A6 I Dw (v:=.int .u8 ((r.kind.toNat:Nat):Int)) (hi:=BU r)) I<|A2 (DL (b:=2#8) I I) I<|wM I I<|Ae 27 I (fun hg8=>?_) (fun hg8=>?_)
 ·try simp only [dz] at hg8
  refine wK I<|wK I<|wK I<|A2 (AC I I) I<|wM I I<|A2 (A1 I BS) I<|A2 (A1 I Bm) I<|A2 (A6 I BF (v:=.int .i64 r.un) (hi:=EJ r)) I<|wM I I<|A2 (Bt I I) I<|A2 (AC I I) I<|A2 (A8 I I) I<|A3 K6<|AH I (fun hc1=>?_) (fun hc1=>?_)
  ·try simp only [dz] at hc1
   (exfalso;revert hyes;unfold C2;simp_all;done)
  try simp only [dz] at hc1
  refine AA<|A5 K5<|A7 fun _ K9=>A4 fun _ K10=>A2 (A1 I C3) I<|A2 (AL (v:=.int .u8 3) (A6 I Dw (v:=.int .u8 ((r.kind.toNat:Nat):Int)) (hi:=BU r)) (by rw [hk];rfl)) I ?_
  refine A3 K10<|AG<|A4 fun _ K11=>A2 (Ab (i:=3) (j:=1) I I) I<|wA I I<|A3 K11<|AM I<|A4 fun _ K12=>A2 (Ab (i:=3) (j:=2) I I) I<|wA I I<|A3 K12<|AM I<|A4 fun _ K13=>A2 (Ab (i:=3) (j:=4) I I) I<|wA I I ?_
  refine A3 K13<|AM I<|A4 fun _ K14=>A2 (Ab (i:=3) (j:=5) I I) I<|wA I I<|A3 K14<|AM I<|AA<|A5 K9<|A4 fun _ K15=>wM I I<|A2 (A1 I CU) I<|A2 (AI (vs:=r.ix.l.flatMap (eU .u8)) I Cv (hl:=by rw [B5];omega) (hi:=Ci r)) I ?_
  refine A2 (A1 I Bq) I<|A2 (A6 I BF (v:=.int .i64 r.num) (hi:=D4 r)) I<|Cl (fun w h=>B1 (a:=ka2) (cap:=kc2) (e:=19) (T:=83) (f:=BH) (l:=kms2) Bf h) (fun hkf=>?_)
  have hV:Sv [Aa ka2 kc2 19 83 BH kms2] (sl ka2 kms2.length kc2) 19 BH kms2 (ka2.map fun g=>⟨g,0,none⟩) kc2:=BM encKM hkf.1 hkf.2
  obtain⟨k,hkk,hke⟩: ∃k,kms2[i0]? =some k/\k.e=e:=by rw [<-hk2,List.getElem?_map] at he;cases hq:kms2[i0]? with|none=>rw [hq] at he;cases he|some k=>rw [hq] at he;exact⟨k,rfl,Option.some.inj he⟩
  subst hke
  have hil:=(List.getElem?_eq_some_iff.1 hkk).1
  refine Cl (fun w h=>Ez (tU:=5) (tL:=44) (kms:=kms2) Bf h) (fun hkv=>?_)
  have hok:=hkv k (List.mem_of_getElem? hkk)
  have hbl33:=hbl
  refine AB (AE Ii I (hs:=DX (X:=Aa ka2 kc2 19 83 BH kms2) (p:=p) (kvs:=kms2.map KM.kv) (room:=room) (tick:=t) (ix:=r.ix) (num:=r.num) (Et hV) (by rw [List.length_map];have q:=congrArg List.length hk2;have q2:(BW t (kms.map KM.e)).length<=(kms.map KM.e).length:=List.length_filterMap_le _ _;rw [List.length_map] at q q2;omega))) I I I ?_
  rintro _ _ ⟨⟨⟩,rfl,hA⟩
  simp only [ca] at hA
  subst hA
  rw [CO,hk2,hf]
  rw [show GA (some i0)=((i0:Nat):Int) from rfl]
  refine wA I I<|A3 K15<|A7 fun _ K16=>A7 fun _ K17=>Am CE (fun _=>2) ?_
  refine jM 0 I I I hp<|jP 1 I (An (j:=0) I I) I hp<|jM 2 I I I hp<|Be 77 I (fun hg18=>?_) (fun hg18=>?_)
  ·try simp only [dz] at hg18
   refine jK 3 I I hp<|jK 4 I I hp<|jK 5 I I hp<|jK 6 I I hp<|jK 7 I I hp<|jK 8 I I hp<|jK 9 I I hp<|jK 10 I I hp<|jK 11 I I hp<|jK 12 I I hp<|jK 13 I I hp<|jK 14 I I hp<|jP 15 I (AC I I) I hp<|jM 16 I I I hp<|jK 17 I I hp ?_
   refine jK 18 I I hp<|jK 19 I I hp<|jK 20 I I hp<|jK 21 I I hp<|jK 22 I I hp<|jK 23 I I hp<|jK 24 I I hp<|jK 25 I I hp<|jK 26 I I hp<|jK 27 I I hp<|jK 28 I I hp<|jK 29 I I hp<|jK 30 I I hp<|jK 31 I I hp<|jP 32 I (AC I I) I hp ?_
   refine jD<|A5 K17<|Ad I<|A4 fun _ K19=>A2 (AL (v:=.agg ([.int .u8 6,.slice none 0 0,.slice none 0 0]:List Value).toArray) (Ah Bp I) I) I<|AX (AV (ys:= [.int .u8 6,.slice none 0 0,.slice none 0 0]) I I Ba (h1:=by simp [BD,Value.cells,Value.oneCell',sl]) (hr:=I)) I I ?_
   rintro _ _ rfl
   refine wA I I<|A3 K19<|AK ?_
   exact hret.gf ⟨(kms2,ka2,kc2),hk2⟩ (Cp rfl rfl rfl Bn)
  try simp only [dz] at hg18
  refine jP 3 I (A1 I CH) I hp<|jT 4 I (AL (v:=.int .i64 ((at':Nat):Int)) (A6 I BF (v:=.int .i64 r.at_) (hi:=DK r)) (by rw [hat])) I hp AQ ?_
  refine jM 5 I I I hp<|jP 6 I (A9 I) I hp<|jP 7 I (A1 I BB) I hp<|jT 8 I (A6 I CL (v:=sl ka2 kms2.length kc2)) I hp AQ<|jM 9 I I I hp<|jP 10 I (AO i0 I I BV C6 (hA:=hV) (hi:=by omega)) I hp ?_
  refine jP 11 I (A1 I C4) I hp<|jT 12 I (Af (f:=BH) (i:=i0) (j:=17) (y:=k) I Bg (hA:=hV) (hl:=hkk) (hv:=Es k)) I hp AQ ?_
  refine jP 13 I (AL (v:=.int .i64 ((k.e.b.length:Nat):Int)) (BA I I BQ) I) I hp<|jP 14 I (Bz I I) I hp ?_
  refine jP 15 I (A8 I I) I hp<|jM 16 I I I hp<|Be 91 I (fun hg20=>?_) (fun hg20=>?_)
  ·try simp only [dz] at hg20
   refine jK 17 I I hp<|jK 18 I I hp<|jK 19 I I hp<|jK 20 I I hp<|jK 21 I I hp<|jK 22 I I hp<|jK 23 I I hp<|jK 24 I I hp<|jK 25 I I hp<|jK 26 I I hp<|jK 27 I I hp<|jK 28 I I hp<|jK 29 I I hp<|jK 30 I I hp<|jK 31 I I hp ?_
   refine jP 32 I (AC I I) I hp<|jD<|A5 K17<|Ad I<|A4 fun _ K21=>A2 (AL (v:=.agg ([.int .u8 6,.slice none 0 0,.slice none 0 0]:List Value).toArray) (Ah Bp I) I) I<|AX (AV (ys:= [.int .u8 6,.slice none 0 0,.slice none 0 0]) I I Ba (h1:=by simp [BD,Value.cells,Value.oneCell',sl]) (hr:=I)) I I ?_
   rintro _ _ rfl
   refine wA I I<|A3 K21<|AK ?_
   exact hret.gf ⟨(kms2,ka2,kc2),hk2⟩ (Cp rfl rfl rfl Bn)
  try simp only [dz] at hg20
  refine jP 17 I (A1 I Cy) I hp<|jT 18 I (AL (v:=.int .i64 ((ln':Nat):Int)) (A6 I BF (v:=.int .i64 r.len) (hi:=GB r)) (by rw [hln])) I hp AQ ?_
  refine jM 19 I I I hp<|jP 20 I (A9 I) I hp<|jP 21 I (A1 I BB) I hp<|jT 22 I (A6 I CL (v:=sl ka2 kms2.length kc2)) I hp AQ<|jM 23 I I I hp<|jP 24 I (AO i0 I I BV C6 (hA:=hV) (hi:=by omega)) I hp ?_
  refine jP 25 I (A1 I C4) I hp<|jT 26 I (Af (f:=BH) (i:=i0) (j:=17) (y:=k) I Bg (hA:=hV) (hl:=hkk) (hv:=Es k)) I hp AQ ?_
  refine jP 27 I (AL (v:=.int .i64 ((k.e.b.length:Nat):Int)) (BA I I BQ) I) I hp<|jP 28 I (A1 I CH) I hp<|jT 29 I (AL (v:=.int .i64 ((at':Nat):Int)) (A6 I BF (v:=.int .i64 r.at_) (hi:=DK r)) (by rw [hat])) I hp AQ ?_
  refine jP 30 I (Ax I I) I hp<|jP 31 I (Bz I I) I hp ?_
  refine jP 32 I (A8 I I) I hp<|jD<|A5 K17<|AH I (fun hc6=>?_) (fun hc6=>?_)
  ·try simp only [dz] at hc6
   refine A4 fun _ K22=>A2 (AL (v:=.agg ([.int .u8 6,.slice none 0 0,.slice none 0 0]:List Value).toArray) (Ah Bp I) I) I<|AX (AV (ys:= [.int .u8 6,.slice none 0 0,.slice none 0 0]) I I Ba (h1:=by simp [BD,Value.cells,Value.oneCell',sl]) (hr:=I)) I I ?_
   rintro _ _ rfl
   refine wA I I<|A3 K22<|AK ?_
   exact hret.gf ⟨(kms2,ka2,kc2),hk2⟩ (Cp rfl rfl rfl Bn)
  try simp only [dz] at hc6
  exfalso
  first|omega|(simp_all;omega)
 try simp only [dz] at hg8
 refine A2 (A1 I C3) I<|A2 (A6 I Dw (v:=.int .u8 ((r.kind.toNat:Nat):Int)) (hi:=BU r)) I<|A2 (DL (b:=4#8) I I) I<|A2 (A8 I I) I<|wM I I<|Ae 32 I (fun hg23=>?_) (fun hg23=>?_)
 ·try simp only [dz] at hg23
  refine A2 (A1 I BS) I<|A2 (A1 I Bm) I<|A2 (A6 I BF (v:=.int .i64 r.un) (hi:=EJ r)) I<|wM I I<|A2 (Bt I I) I<|A2 (AC I I) I<|A2 (A8 I I) I<|A3 K6<|AH I (fun hc1=>?_) (fun hc1=>?_)
  ·try simp only [dz] at hc1
   (exfalso;revert hyes;unfold C2;simp_all;done)
  try simp only [dz] at hc1
  refine AA<|A5 K5<|A7 fun _ K24=>A4 fun _ K25=>A2 (A1 I C3) I<|A2 (AL (v:=.int .u8 3) (A6 I Dw (v:=.int .u8 ((r.kind.toNat:Nat):Int)) (hi:=BU r)) (by rw [hk];rfl)) I ?_
  refine A3 K25<|AG<|A4 fun _ K26=>A2 (Ab (i:=3) (j:=1) I I) I<|wA I I<|A3 K26<|AM I<|A4 fun _ K27=>A2 (Ab (i:=3) (j:=2) I I) I<|wA I I<|A3 K27<|AM I<|A4 fun _ K28=>A2 (Ab (i:=3) (j:=4) I I) I<|wA I I ?_
  refine A3 K28<|AM I<|A4 fun _ K29=>A2 (Ab (i:=3) (j:=5) I I) I<|wA I I<|A3 K29<|AM I<|AA<|A5 K24<|A4 fun _ K30=>wM I I<|A2 (A1 I CU) I<|A2 (AI (vs:=r.ix.l.flatMap (eU .u8)) I Cv (hl:=by rw [B5];omega) (hi:=Ci r)) I ?_
  refine A2 (A1 I Bq) I<|A2 (A6 I BF (v:=.int .i64 r.num) (hi:=D4 r)) I<|Cl (fun w h=>B1 (a:=ka2) (cap:=kc2) (e:=19) (T:=83) (f:=BH) (l:=kms2) Bf h) (fun hkf=>?_)
  have hV:Sv [Aa ka2 kc2 19 83 BH kms2] (sl ka2 kms2.length kc2) 19 BH kms2 (ka2.map fun g=>⟨g,0,none⟩) kc2:=BM encKM hkf.1 hkf.2
  obtain⟨k,hkk,hke⟩: ∃k,kms2[i0]? =some k/\k.e=e:=by rw [<-hk2,List.getElem?_map] at he;cases hq:kms2[i0]? with|none=>rw [hq] at he;cases he|some k=>rw [hq] at he;exact⟨k,rfl,Option.some.inj he⟩
  subst hke
  have hil:=(List.getElem?_eq_some_iff.1 hkk).1
  refine Cl (fun w h=>Ez (tU:=5) (tL:=44) (kms:=kms2) Bf h) (fun hkv=>?_)
  have hok:=hkv k (List.mem_of_getElem? hkk)
  have hbl33:=hbl
  refine AB (AE Ii I (hs:=DX (X:=Aa ka2 kc2 19 83 BH kms2) (p:=p) (kvs:=kms2.map KM.kv) (room:=room) (tick:=t) (ix:=r.ix) (num:=r.num) (Et hV) (by rw [List.length_map];have q:=congrArg List.length hk2;have q2:(BW t (kms.map KM.e)).length<=(kms.map KM.e).length:=List.length_filterMap_le _ _;rw [List.length_map] at q q2;omega))) I I I ?_
  rintro _ _ ⟨⟨⟩,rfl,hA⟩
  simp only [ca] at hA
  subst hA
  rw [CO,hk2,hf]
  rw [show GA (some i0)=((i0:Nat):Int) from rfl]
  refine wA I I<|A3 K30<|A7 fun _ K31=>A7 fun _ K32=>Am CE (fun _=>2) ?_
  refine jM 0 I I I hp<|jP 1 I (An (j:=0) I I) I hp<|jM 2 I I I hp<|Be 77 I (fun hg33=>?_) (fun hg33=>?_)
  ·try simp only [dz] at hg33
   refine jK 3 I I hp<|jK 4 I I hp<|jK 5 I I hp<|jK 6 I I hp<|jK 7 I I hp<|jK 8 I I hp<|jK 9 I I hp<|jK 10 I I hp<|jK 11 I I hp<|jK 12 I I hp<|jK 13 I I hp<|jK 14 I I hp<|jP 15 I (AC I I) I hp<|jM 16 I I I hp<|jK 17 I I hp ?_
   refine jK 18 I I hp<|jK 19 I I hp<|jK 20 I I hp<|jK 21 I I hp<|jK 22 I I hp<|jK 23 I I hp<|jK 24 I I hp<|jK 25 I I hp<|jK 26 I I hp<|jK 27 I I hp<|jK 28 I I hp<|jK 29 I I hp<|jK 30 I I hp<|jK 31 I I hp<|jP 32 I (AC I I) I hp ?_
   refine jD<|A5 K32<|Ad I<|A4 fun _ K34=>A2 (AL (v:=.agg ([.int .u8 6,.slice none 0 0,.slice none 0 0]:List Value).toArray) (Ah Bp I) I) I<|AX (AV (ys:= [.int .u8 6,.slice none 0 0,.slice none 0 0]) I I Ba (h1:=by simp [BD,Value.cells,Value.oneCell',sl]) (hr:=I)) I I ?_
   rintro _ _ rfl
   refine wA I I<|A3 K34<|AK ?_
   exact hret.gf ⟨(kms2,ka2,kc2),hk2⟩ (Cp rfl rfl rfl Bn)
  try simp only [dz] at hg33
  refine jP 3 I (A1 I CH) I hp<|jT 4 I (AL (v:=.int .i64 ((at':Nat):Int)) (A6 I BF (v:=.int .i64 r.at_) (hi:=DK r)) (by rw [hat])) I hp AQ ?_
  refine jM 5 I I I hp<|jP 6 I (A9 I) I hp<|jP 7 I (A1 I BB) I hp<|jT 8 I (A6 I CL (v:=sl ka2 kms2.length kc2)) I hp AQ<|jM 9 I I I hp<|jP 10 I (AO i0 I I BV C6 (hA:=hV) (hi:=by omega)) I hp ?_
  refine jP 11 I (A1 I C4) I hp<|jT 12 I (Af (f:=BH) (i:=i0) (j:=17) (y:=k) I Bg (hA:=hV) (hl:=hkk) (hv:=Es k)) I hp AQ ?_
  refine jP 13 I (AL (v:=.int .i64 ((k.e.b.length:Nat):Int)) (BA I I BQ) I) I hp<|jP 14 I (Bz I I) I hp ?_
  refine jP 15 I (A8 I I) I hp<|jM 16 I I I hp<|Be 91 I (fun hg35=>?_) (fun hg35=>?_)
  ·try simp only [dz] at hg35
   refine jK 17 I I hp<|jK 18 I I hp<|jK 19 I I hp<|jK 20 I I hp<|jK 21 I I hp<|jK 22 I I hp<|jK 23 I I hp<|jK 24 I I hp<|jK 25 I I hp<|jK 26 I I hp<|jK 27 I I hp<|jK 28 I I hp<|jK 29 I I hp<|jK 30 I I hp<|jK 31 I I hp ?_
   refine jP 32 I (AC I I) I hp<|jD<|A5 K32<|Ad I<|A4 fun _ K36=>A2 (AL (v:=.agg ([.int .u8 6,.slice none 0 0,.slice none 0 0]:List Value).toArray) (Ah Bp I) I) I<|AX (AV (ys:= [.int .u8 6,.slice none 0 0,.slice none 0 0]) I I Ba (h1:=by simp [BD,Value.cells,Value.oneCell',sl]) (hr:=I)) I I ?_
   rintro _ _ rfl
   refine wA I I<|A3 K36<|AK ?_
   exact hret.gf ⟨(kms2,ka2,kc2),hk2⟩ (Cp rfl rfl rfl Bn)
  try simp only [dz] at hg35
  refine jP 17 I (A1 I Cy) I hp<|jT 18 I (AL (v:=.int .i64 ((ln':Nat):Int)) (A6 I BF (v:=.int .i64 r.len) (hi:=GB r)) (by rw [hln])) I hp AQ ?_
  refine jM 19 I I I hp<|jP 20 I (A9 I) I hp<|jP 21 I (A1 I BB) I hp<|jT 22 I (A6 I CL (v:=sl ka2 kms2.length kc2)) I hp AQ<|jM 23 I I I hp<|jP 24 I (AO i0 I I BV C6 (hA:=hV) (hi:=by omega)) I hp ?_
  refine jP 25 I (A1 I C4) I hp<|jT 26 I (Af (f:=BH) (i:=i0) (j:=17) (y:=k) I Bg (hA:=hV) (hl:=hkk) (hv:=Es k)) I hp AQ ?_
  refine jP 27 I (AL (v:=.int .i64 ((k.e.b.length:Nat):Int)) (BA I I BQ) I) I hp<|jP 28 I (A1 I CH) I hp<|jT 29 I (AL (v:=.int .i64 ((at':Nat):Int)) (A6 I BF (v:=.int .i64 r.at_) (hi:=DK r)) (by rw [hat])) I hp AQ ?_
  refine jP 30 I (Ax I I) I hp<|jP 31 I (Bz I I) I hp ?_
  refine jP 32 I (A8 I I) I hp<|jD<|A5 K32<|AH I (fun hc6=>?_) (fun hc6=>?_)
  ·try simp only [dz] at hc6
   refine A4 fun _ K37=>A2 (AL (v:=.agg ([.int .u8 6,.slice none 0 0,.slice none 0 0]:List Value).toArray) (Ah Bp I) I) I<|AX (AV (ys:= [.int .u8 6,.slice none 0 0,.slice none 0 0]) I I Ba (h1:=by simp [BD,Value.cells,Value.oneCell',sl]) (hr:=I)) I I ?_
   rintro _ _ rfl
   refine wA I I<|A3 K37<|AK ?_
   exact hret.gf ⟨(kms2,ka2,kc2),hk2⟩ (Cp rfl rfl rfl Bn)
  try simp only [dz] at hc6
  exfalso
  first|omega|(simp_all;omega)
 try simp only [dz] at hg23
 refine wK I<|wK I<|wK I<|wK I<|wK I<|A2 (A8 I I) I<|A2 (A8 I I) I<|A3 K6<|AM I<|AA<|A5 K5<|A7 fun _ K38=>A4 fun _ K39=>A2 (A1 I C3) I<|A2 (AL (v:=.int .u8 3) (A6 I Dw (v:=.int .u8 ((r.kind.toNat:Nat):Int)) (hi:=BU r)) (by rw [hk];rfl)) I ?_
 refine A3 K39<|AG<|A4 fun _ K40=>A2 (Ab (i:=3) (j:=1) I I) I<|wA I I<|A3 K40<|AM I<|A4 fun _ K41=>A2 (Ab (i:=3) (j:=2) I I) I<|wA I I<|A3 K41<|AM I<|A4 fun _ K42=>A2 (Ab (i:=3) (j:=4) I I) I<|wA I I ?_
 refine A3 K42<|AM I<|A4 fun _ K43=>A2 (Ab (i:=3) (j:=5) I I) I<|wA I I<|A3 K43<|AM I<|AA<|A5 K38<|A4 fun _ K44=>wM I I<|A2 (A1 I CU) I<|A2 (AI (vs:=r.ix.l.flatMap (eU .u8)) I Cv (hl:=by rw [B5];omega) (hi:=Ci r)) I ?_
 refine A2 (A1 I Bq) I<|A2 (A6 I BF (v:=.int .i64 r.num) (hi:=D4 r)) I<|Cl (fun w h=>B1 (a:=ka2) (cap:=kc2) (e:=19) (T:=83) (f:=BH) (l:=kms2) Bf h) (fun hkf=>?_)
 have hV:Sv [Aa ka2 kc2 19 83 BH kms2] (sl ka2 kms2.length kc2) 19 BH kms2 (ka2.map fun g=>⟨g,0,none⟩) kc2:=BM encKM hkf.1 hkf.2
 obtain⟨k,hkk,hke⟩: ∃k,kms2[i0]? =some k/\k.e=e:=by rw [<-hk2,List.getElem?_map] at he;cases hq:kms2[i0]? with|none=>rw [hq] at he;cases he|some k=>rw [hq] at he;exact⟨k,rfl,Option.some.inj he⟩
 subst hke
 have hil:=(List.getElem?_eq_some_iff.1 hkk).1
 refine Cl (fun w h=>Ez (tU:=5) (tL:=44) (kms:=kms2) Bf h) (fun hkv=>?_)
 have hok:=hkv k (List.mem_of_getElem? hkk)
 have hbl33:=hbl
 refine AB (AE Ii I (hs:=DX (X:=Aa ka2 kc2 19 83 BH kms2) (p:=p) (kvs:=kms2.map KM.kv) (room:=room) (tick:=t) (ix:=r.ix) (num:=r.num) (Et hV) (by rw [List.length_map];have q:=congrArg List.length hk2;have q2:(BW t (kms.map KM.e)).length<=(kms.map KM.e).length:=List.length_filterMap_le _ _;rw [List.length_map] at q q2;omega))) I I I ?_
 rintro _ _ ⟨⟨⟩,rfl,hA⟩
 simp only [ca] at hA
 subst hA
 rw [CO,hk2,hf]
 rw [show GA (some i0)=((i0:Nat):Int) from rfl]
 refine wA I I<|A3 K44<|A7 fun _ K45=>A7 fun _ K46=>Am CE (fun _=>2) ?_
 refine jM 0 I I I hp<|jP 1 I (An (j:=0) I I) I hp<|jM 2 I I I hp<|Be 77 I (fun hg47=>?_) (fun hg47=>?_)
 ·try simp only [dz] at hg47
  refine jK 3 I I hp<|jK 4 I I hp<|jK 5 I I hp<|jK 6 I I hp<|jK 7 I I hp<|jK 8 I I hp<|jK 9 I I hp<|jK 10 I I hp<|jK 11 I I hp<|jK 12 I I hp<|jK 13 I I hp<|jK 14 I I hp<|jP 15 I (AC I I) I hp<|jM 16 I I I hp<|jK 17 I I hp ?_
  refine jK 18 I I hp<|jK 19 I I hp<|jK 20 I I hp<|jK 21 I I hp<|jK 22 I I hp<|jK 23 I I hp<|jK 24 I I hp<|jK 25 I I hp<|jK 26 I I hp<|jK 27 I I hp<|jK 28 I I hp<|jK 29 I I hp<|jK 30 I I hp<|jK 31 I I hp<|jP 32 I (AC I I) I hp ?_
  refine jD<|A5 K46<|Ad I<|A4 fun _ K48=>A2 (AL (v:=.agg ([.int .u8 6,.slice none 0 0,.slice none 0 0]:List Value).toArray) (Ah Bp I) I) I<|AX (AV (ys:= [.int .u8 6,.slice none 0 0,.slice none 0 0]) I I Ba (h1:=by simp [BD,Value.cells,Value.oneCell',sl]) (hr:=I)) I I ?_
  rintro _ _ rfl
  refine wA I I<|A3 K48<|AK ?_
  exact hret.gf ⟨(kms2,ka2,kc2),hk2⟩ (Cp rfl rfl rfl Bn)
 try simp only [dz] at hg47
 refine jP 3 I (A1 I CH) I hp<|jT 4 I (AL (v:=.int .i64 ((at':Nat):Int)) (A6 I BF (v:=.int .i64 r.at_) (hi:=DK r)) (by rw [hat])) I hp AQ ?_
 refine jM 5 I I I hp<|jP 6 I (A9 I) I hp<|jP 7 I (A1 I BB) I hp<|jT 8 I (A6 I CL (v:=sl ka2 kms2.length kc2)) I hp AQ<|jM 9 I I I hp<|jP 10 I (AO i0 I I BV C6 (hA:=hV) (hi:=by omega)) I hp ?_
 refine jP 11 I (A1 I C4) I hp<|jT 12 I (Af (f:=BH) (i:=i0) (j:=17) (y:=k) I Bg (hA:=hV) (hl:=hkk) (hv:=Es k)) I hp AQ ?_
 refine jP 13 I (AL (v:=.int .i64 ((k.e.b.length:Nat):Int)) (BA I I BQ) I) I hp<|jP 14 I (Bz I I) I hp ?_
 refine jP 15 I (A8 I I) I hp<|jM 16 I I I hp<|Be 91 I (fun hg49=>?_) (fun hg49=>?_)
 ·try simp only [dz] at hg49
  refine jK 17 I I hp<|jK 18 I I hp<|jK 19 I I hp<|jK 20 I I hp<|jK 21 I I hp<|jK 22 I I hp<|jK 23 I I hp<|jK 24 I I hp<|jK 25 I I hp<|jK 26 I I hp<|jK 27 I I hp<|jK 28 I I hp<|jK 29 I I hp<|jK 30 I I hp<|jK 31 I I hp ?_
  refine jP 32 I (AC I I) I hp<|jD<|A5 K46<|Ad I<|A4 fun _ K50=>A2 (AL (v:=.agg ([.int .u8 6,.slice none 0 0,.slice none 0 0]:List Value).toArray) (Ah Bp I) I) I<|AX (AV (ys:= [.int .u8 6,.slice none 0 0,.slice none 0 0]) I I Ba (h1:=by simp [BD,Value.cells,Value.oneCell',sl]) (hr:=I)) I I ?_
  rintro _ _ rfl
  refine wA I I<|A3 K50<|AK ?_
  exact hret.gf ⟨(kms2,ka2,kc2),hk2⟩ (Cp rfl rfl rfl Bn)
 try simp only [dz] at hg49
 refine jP 17 I (A1 I Cy) I hp<|jT 18 I (AL (v:=.int .i64 ((ln':Nat):Int)) (A6 I BF (v:=.int .i64 r.len) (hi:=GB r)) (by rw [hln])) I hp AQ ?_
 refine jM 19 I I I hp<|jP 20 I (A9 I) I hp<|jP 21 I (A1 I BB) I hp<|jT 22 I (A6 I CL (v:=sl ka2 kms2.length kc2)) I hp AQ<|jM 23 I I I hp<|jP 24 I (AO i0 I I BV C6 (hA:=hV) (hi:=by omega)) I hp ?_
 refine jP 25 I (A1 I C4) I hp<|jT 26 I (Af (f:=BH) (i:=i0) (j:=17) (y:=k) I Bg (hA:=hV) (hl:=hkk) (hv:=Es k)) I hp AQ ?_
 refine jP 27 I (AL (v:=.int .i64 ((k.e.b.length:Nat):Int)) (BA I I BQ) I) I hp<|jP 28 I (A1 I CH) I hp<|jT 29 I (AL (v:=.int .i64 ((at':Nat):Int)) (A6 I BF (v:=.int .i64 r.at_) (hi:=DK r)) (by rw [hat])) I hp AQ ?_
 refine jP 30 I (Ax I I) I hp<|jP 31 I (Bz I I) I hp ?_
 refine jP 32 I (A8 I I) I hp<|jD<|A5 K46<|AH I (fun hc6=>?_) (fun hc6=>?_)
 ·try simp only [dz] at hc6
  refine A4 fun _ K51=>A2 (AL (v:=.agg ([.int .u8 6,.slice none 0 0,.slice none 0 0]:List Value).toArray) (Ah Bp I) I) I<|AX (AV (ys:= [.int .u8 6,.slice none 0 0,.slice none 0 0]) I I Ba (h1:=by simp [BD,Value.cells,Value.oneCell',sl]) (hr:=I)) I I ?_
  rintro _ _ rfl
  refine wA I I<|A3 K51<|AK ?_
  exact hret.gf ⟨(kms2,ka2,kc2),hk2⟩ (Cp rfl rfl rfl Bn)
 try simp only [dz] at hc6
 exfalso
 first|omega|(simp_all;omega)

theorem aH{p at' ln':Nat}{room tick t:Int}{kms:List KM}{ka:Option Nat}{kc:Nat}{r:Rq}{Y:Ao}{i0:Nat}{e:Kp}(hn:kms.length<=100000000)(hls: ∀k∈kms,k.e.ls.length<=100000)(h1:tick<=t)(h2:t<=1099511627776)(hyes:(IE r && C2 t r)=true)(hk:r.kind=3#8)(hat:r.at_=((at':Nat):Int))(hln:r.len=((ln':Nat):Int))(ha1:at'<=33554432)(ha2:ln'<=131072)(hf:Ed (r.ix,r.num) (BW t (kms.map KM.e))=some i0)(he:(BW t (kms.map KM.e))[i0]? =some e)(hbl:e.b.length<=33554432)(h3:at'+ln'<=e.b.length):Ct Tryz.prog 52 [.pointer (some ⟨p,0,none⟩),.int .i64 t,.agg (CP r).toArray] [cl p 24 [.int .i64 room,.int .i64 tick,sl ka kms.length kc],Aa ka kc 19 83 BH kms,star (CQ 5 44) kms,Y] (fun g: {g:List KM × Option Nat × Nat // g.1.map KM.e=(BW t (kms.map KM.e))} × Option Nat × Nat=>.tuple #[.agg [.int .u8 5,.slice none 0 0,sl g.2.1 ((e.b.take (at'+ln')).drop at').length g.2.2].toArray,.int .i64 0]) (fun g=> [cl p 24 [.int .i64 room,.int .i64 t,sl g.1.1.2.1 g.1.1.1.length g.1.1.2.2],Aa g.1.1.2.1 g.1.1.2.2 19 83 BH g.1.1.1,star (CQ 5 44) g.1.1.1,Y,Aa g.2.1 g.2.2 1 5 (eU .u8 (w:=8)) ((e.b.take (at'+ln')).drop at')]):=by
 refine AY (n:=131) Tryz.func52 I I I fun F w0 Q hret hnorm hp=>?_
 change WC _ _ _ _ _ _ _ (_::_::_::_::F)
 refine A4 fun _ K1=>AB (Ay (xs:=CP r) I I) I I I ?_
 rintro _ _ ⟨b5,rfl,rfl⟩
 refine AB (AZ Ce) I I I ?_
 rintro _ _ ⟨b6,rfl,rfl⟩
 refine wA I I<|A3 K1<|A4 fun _ K2=>wM I I<|wM I I<|AB (AE NM I (hs:=Jv (p:=p) (kms:=kms) (ka:=ka) (kc:=kc) (room:=room) (tick:=tick) (t1:=t) h1 h2 hn hls)) I I I ?_
 rintro _ _ ⟨⟨⟨kms2,ka2,kc2⟩,hk2⟩,rfl,hA⟩
 simp only [ca] at hA
 subst hA
 (try dsimp only at hk2)
 refine wA I I<|A3 K2<|A7 fun _ K3=>A4 fun _ K4=>wM I I<|A2 (Bj (i:=0) (j:=0) I I) I ?_
 refine A3 K4<|AM I<|AA<|A5 K3<|A7 fun _ K5=>A4 fun _ K6=>A2 (AI (vs:=CP r) I EG (hl:=by rw [B5];omega) (hi:=CM r)) I ?_
 refine AB (AE RO I (hs:=H4 (r:=r))) I I I ?_
 rintro _ _ ⟨⟨⟩,rfl,hA⟩
 simp only [ca] at hA
 subst hA
 refine A2 (Au I) I<|wM I I<|Ae 23 I (fun hg7=>?_) (fun hg7=>?_)
 ·try simp only [dz] at hg7
  refine wK I<|wK I<|wK I<|wK I<|wK I<|wK I<|wK I<|wK I<|wK I<|wK I<|wK I<|wK I<|wK I<|wK I<|wK I ?_
  refine A2 (AC I I) I<|A3 K6<|Ad I ?_
  (exfalso;revert hyes;unfold C2;simp_all;done)
 try simp only [dz] at hg7
 refine A2 (A1 I C3) I<|A2 (A6 I Dw (v:=.int .u8 ((r.kind.toNat:Nat):Int)) (hi:=BU r)) I<|A2 (DL (b:=2#8) I I) I<|wM I I<|Ae 27 I (fun hg8=>?_) (fun hg8=>?_)
 ·try simp only [dz] at hg8
  refine wK I<|wK I<|wK I<|A2 (AC I I) I<|wM I I<|A2 (A1 I BS) I<|A2 (A1 I Bm) I<|A2 (A6 I BF (v:=.int .i64 r.un) (hi:=EJ r)) I<|wM I I<|A2 (Bt I I) I<|A2 (AC I I) I<|A2 (A8 I I) I<|A3 K6<|AH I (fun hc1=>?_) (fun hc1=>?_)
  ·try simp only [dz] at hc1
   (exfalso;revert hyes;unfold C2;simp_all;done)
  try simp only [dz] at hc1
  refine AA<|A5 K5<|A7 fun _ K9=>A4 fun _ K10=>A2 (A1 I C3) I<|A2 (AL (v:=.int .u8 3) (A6 I Dw (v:=.int .u8 ((r.kind.toNat:Nat):Int)) (hi:=BU r)) (by rw [hk];rfl)) I ?_
  refine A3 K10<|AG<|A4 fun _ K11=>A2 (Ab (i:=3) (j:=1) I I) I<|wA I I<|A3 K11<|AM I<|A4 fun _ K12=>A2 (Ab (i:=3) (j:=2) I I) I<|wA I I<|A3 K12<|AM I<|A4 fun _ K13=>A2 (Ab (i:=3) (j:=4) I I) I<|wA I I ?_
  refine A3 K13<|AM I<|A4 fun _ K14=>A2 (Ab (i:=3) (j:=5) I I) I<|wA I I<|A3 K14<|AM I<|AA<|A5 K9<|A4 fun _ K15=>wM I I<|A2 (A1 I CU) I<|A2 (AI (vs:=r.ix.l.flatMap (eU .u8)) I Cv (hl:=by rw [B5];omega) (hi:=Ci r)) I ?_
  refine A2 (A1 I Bq) I<|A2 (A6 I BF (v:=.int .i64 r.num) (hi:=D4 r)) I<|Cl (fun w h=>B1 (a:=ka2) (cap:=kc2) (e:=19) (T:=83) (f:=BH) (l:=kms2) Bf h) (fun hkf=>?_)
  have hV:Sv [Aa ka2 kc2 19 83 BH kms2] (sl ka2 kms2.length kc2) 19 BH kms2 (ka2.map fun g=>⟨g,0,none⟩) kc2:=BM encKM hkf.1 hkf.2
  obtain⟨k,hkk,hke⟩: ∃k,kms2[i0]? =some k/\k.e=e:=by rw [<-hk2,List.getElem?_map] at he;cases hq:kms2[i0]? with|none=>rw [hq] at he;cases he|some k=>rw [hq] at he;exact⟨k,rfl,Option.some.inj he⟩
  subst hke
  have hil:=(List.getElem?_eq_some_iff.1 hkk).1
  refine Cl (fun w h=>Ez (tU:=5) (tL:=44) (kms:=kms2) Bf h) (fun hkv=>?_)
  have hok:=hkv k (List.mem_of_getElem? hkk)
  have hbl33:=hbl
  refine AB (AE Ii I (hs:=DX (X:=Aa ka2 kc2 19 83 BH kms2) (p:=p) (kvs:=kms2.map KM.kv) (room:=room) (tick:=t) (ix:=r.ix) (num:=r.num) (Et hV) (by rw [List.length_map];have q:=congrArg List.length hk2;have q2:(BW t (kms.map KM.e)).length<=(kms.map KM.e).length:=List.length_filterMap_le _ _;rw [List.length_map] at q q2;omega))) I I I ?_
  rintro _ _ ⟨⟨⟩,rfl,hA⟩
  simp only [ca] at hA
  subst hA
  rw [CO,hk2,hf]
  rw [show GA (some i0)=((i0:Nat):Int) from rfl]
  refine wA I I<|A3 K15<|A7 fun _ K16=>A7 fun _ K17=>Am CE (fun _=>2) ?_
  refine jM 0 I I I hp<|jP 1 I (An (j:=0) I I) I hp<|jM 2 I I I hp<|Be 77 I (fun hg18=>?_) (fun hg18=>?_)
  ·try simp only [dz] at hg18
   refine jK 3 I I hp<|jK 4 I I hp<|jK 5 I I hp<|jK 6 I I hp<|jK 7 I I hp<|jK 8 I I hp<|jK 9 I I hp<|jK 10 I I hp<|jK 11 I I hp<|jK 12 I I hp<|jK 13 I I hp<|jK 14 I I hp<|jP 15 I (AC I I) I hp<|jM 16 I I I hp<|jK 17 I I hp ?_
   refine jK 18 I I hp<|jK 19 I I hp<|jK 20 I I hp<|jK 21 I I hp<|jK 22 I I hp<|jK 23 I I hp<|jK 24 I I hp<|jK 25 I I hp<|jK 26 I I hp<|jK 27 I I hp<|jK 28 I I hp<|jK 29 I I hp<|jK 30 I I hp<|jK 31 I I hp<|jP 32 I (AC I I) I hp ?_
   refine jD<|A5 K17<|Ad I ?_
   exfalso
   first|omega|(simp_all;omega)
  try simp only [dz] at hg18
  refine jP 3 I (A1 I CH) I hp<|jT 4 I (AL (v:=.int .i64 ((at':Nat):Int)) (A6 I BF (v:=.int .i64 r.at_) (hi:=DK r)) (by rw [hat])) I hp AQ ?_
  refine jM 5 I I I hp<|jP 6 I (A9 I) I hp<|jP 7 I (A1 I BB) I hp<|jT 8 I (A6 I CL (v:=sl ka2 kms2.length kc2)) I hp AQ<|jM 9 I I I hp<|jP 10 I (AO i0 I I BV C6 (hA:=hV) (hi:=by omega)) I hp ?_
  refine jP 11 I (A1 I C4) I hp<|jT 12 I (Af (f:=BH) (i:=i0) (j:=17) (y:=k) I Bg (hA:=hV) (hl:=hkk) (hv:=Es k)) I hp AQ ?_
  refine jP 13 I (AL (v:=.int .i64 ((k.e.b.length:Nat):Int)) (BA I I BQ) I) I hp<|jP 14 I (Bz I I) I hp ?_
  refine jP 15 I (A8 I I) I hp<|jM 16 I I I hp<|Be 91 I (fun hg19=>?_) (fun hg19=>?_)
  ·try simp only [dz] at hg19
   refine jK 17 I I hp<|jK 18 I I hp<|jK 19 I I hp<|jK 20 I I hp<|jK 21 I I hp<|jK 22 I I hp<|jK 23 I I hp<|jK 24 I I hp<|jK 25 I I hp<|jK 26 I I hp<|jK 27 I I hp<|jK 28 I I hp<|jK 29 I I hp<|jK 30 I I hp<|jK 31 I I hp ?_
   refine jP 32 I (AC I I) I hp<|jD<|A5 K17<|Ad I ?_
   exfalso
   first|omega|(simp_all;omega)
  try simp only [dz] at hg19
  refine jP 17 I (A1 I Cy) I hp<|jT 18 I (AL (v:=.int .i64 ((ln':Nat):Int)) (A6 I BF (v:=.int .i64 r.len) (hi:=GB r)) (by rw [hln])) I hp AQ ?_
  refine jM 19 I I I hp<|jP 20 I (A9 I) I hp<|jP 21 I (A1 I BB) I hp<|jT 22 I (A6 I CL (v:=sl ka2 kms2.length kc2)) I hp AQ<|jM 23 I I I hp<|jP 24 I (AO i0 I I BV C6 (hA:=hV) (hi:=by omega)) I hp ?_
  refine jP 25 I (A1 I C4) I hp<|jT 26 I (Af (f:=BH) (i:=i0) (j:=17) (y:=k) I Bg (hA:=hV) (hl:=hkk) (hv:=Es k)) I hp AQ ?_
  refine jP 27 I (AL (v:=.int .i64 ((k.e.b.length:Nat):Int)) (BA I I BQ) I) I hp<|jP 28 I (A1 I CH) I hp<|jT 29 I (AL (v:=.int .i64 ((at':Nat):Int)) (A6 I BF (v:=.int .i64 r.at_) (hi:=DK r)) (by rw [hat])) I hp AQ ?_
  refine jP 30 I (Ax I I) I hp<|jP 31 I (Bz I I) I hp ?_
  refine jP 32 I (A8 I I) I hp<|jD<|A5 K17<|AH I (fun hc6=>?_) (fun hc6=>?_)
  ·try simp only [dz] at hc6
   exfalso
   first|omega|(simp_all;omega)
  try simp only [dz] at hc6
  refine AA<|A5 K16<|A4 fun _ K20=>A2 (AL (v:=.agg ([.int .u8 5,.slice none 0 0,.slice none 0 0]:List Value).toArray) (Ah Bp I) I) I<|AB (AZ Ce) I I I ?_
  rintro _ _ ⟨b12,rfl,rfl⟩
  have hpl:((k.e.b.take (at'+ln')).drop at').length=at'+ln' -at':=by rw [List.length_drop,List.length_take];omega
  refine CJ (eU .u8 (w:=8)) 1 5 ?_
  refine AX (AV (ys:= [.int .u8 5,.slice none 0 0,.slice none 0 0]) I I Ba (h1:=by simp [BD,Value.cells,Value.oneCell',sl]) (hr:=I)) I I ?_
  rintro _ _ rfl
  refine A3 K20<|A7 fun _ K21=>BC CE [cl p 24 [.int .i64 room,.int .i64 t,sl ka2 kms2.length kc2],Aa ka2 kc2 19 83 BH kms2,star (CQ 5 44) kms2,cl b12 113 [.int .u8 5,.slice none 0 0,.slice none 0 0],cl b5 47 (CP r)] (fun i=>([2,2,2,2,2,2,2,2,2,2,2,2,2,2,2,2,2,2,1,2,0]:List Nat).getD i 0) ?_
  refine jP 0 I (A1 I Ft) I hp<|jT 1 I (A6 I Bg (v:=.slice none 0 0)) I hp AQ<|jM 2 I I I hp<|jP 3 I (A9 I) I hp<|jP 4 I (A1 I BB) I hp<|jT 5 I (A6 I CL (v:=sl ka2 kms2.length kc2)) I hp AQ<|jM 6 I I I hp<|jP 7 I (AO i0 I I BV C6 (hA:=hV) (hi:=by omega)) I hp ?_
  refine jP 8 I (A1 I C4) I hp<|jT 9 I (Af (f:=BH) (i:=i0) (j:=17) (y:=k) I Bg (hA:=hV) (hl:=hkk) (hv:=Es k)) I hp AQ ?_
  refine jP 10 I (A1 I CH) I hp<|jT 11 I (AL (v:=.int .i64 ((at':Nat):Int)) (A6 I BF (v:=.int .i64 r.at_) (hi:=DK r)) (by rw [hat])) I hp AQ ?_
  refine jP 12 I (A1 I CH) I hp<|jT 13 I (AL (v:=.int .i64 ((at':Nat):Int)) (A6 I BF (v:=.int .i64 r.at_) (hi:=DK r)) (by rw [hat])) I hp AQ ?_
  refine jP 14 I (A1 I Cy) I hp<|jT 15 I (AL (v:=.int .i64 ((ln':Nat):Int)) (A6 I BF (v:=.int .i64 r.len) (hi:=GB r)) (by rw [hln])) I hp AQ ?_
  refine jP 16 I (AN I I) I hp<|jP 17 I (H9 at' (at'+ln') I ⟨_,I⟩ ⟨_,I⟩ BQ Ki (hA:=hok.hb)) I hp ?_
  refine jO 18<|B7 I (E6 (f:=(eU .u8 (w:=8))) (Em .u8) I I BQ BQ Xk (a:=none) (cap:=0) (l:= []) (l2:=((k.e.b.take (at'+ln')).drop at')) (hS:=hok.hb.sub (lo:=at') (hi:=at'+ln') (Nat.le_add_right _ _) h3) (hb:=by rw [List.length_nil,hpl];omega)) I I I I ?_
  rintro _ _ ⟨a83,cap83,rfl,rfl⟩
  rw [List.nil_append,show ([]:List B8).length+((k.e.b.take (at'+ln')).drop at').length=((k.e.b.take (at'+ln')).drop at').length from Nat.zero_add _]
  refine⟨(fun _=>Bh),?_⟩
  refine jP 19 I (A1 I Ft) I hp<|jO 20<|EN I (Ar (ys:= [.int .u8 5,.slice none 0 0,sl a83 ((k.e.b.take (at'+ln')).drop at').length cap83]) I I Gi (hr:=I)) I ?_
  rintro _ _ rfl
  refine jD<|A5 K21<|A4 fun _ K22=>A2 (AI (vs:= [.int .u8 5,.slice none 0 0,sl a83 ((k.e.b.take (at'+ln')).drop at').length cap83]) I Bn) I<|AX (AV (ys:= [.int .u8 5,.slice none 0 0,sl a83 ((k.e.b.take (at'+ln')).drop at').length cap83]) I I Ba (h1:=by simp [BD,Value.cells,Value.oneCell',sl]) (hr:=I)) I I ?_
  rintro _ _ rfl
  refine wA I I<|A3 K22<|AK ?_
  exact hret.gf (⟨(kms2,ka2,kc2),hk2⟩,(a83,cap83)) (Cp rfl rfl rfl Bn)
 try simp only [dz] at hg8
 refine A2 (A1 I C3) I<|A2 (A6 I Dw (v:=.int .u8 ((r.kind.toNat:Nat):Int)) (hi:=BU r)) I<|A2 (DL (b:=4#8) I I) I<|A2 (A8 I I) I<|wM I I<|Ae 32 I (fun hg23=>?_) (fun hg23=>?_)
 ·try simp only [dz] at hg23
  refine A2 (A1 I BS) I<|A2 (A1 I Bm) I<|A2 (A6 I BF (v:=.int .i64 r.un) (hi:=EJ r)) I<|wM I I<|A2 (Bt I I) I<|A2 (AC I I) I<|A2 (A8 I I) I<|A3 K6<|AH I (fun hc1=>?_) (fun hc1=>?_)
  ·try simp only [dz] at hc1
   (exfalso;revert hyes;unfold C2;simp_all;done)
  try simp only [dz] at hc1
  refine AA<|A5 K5<|A7 fun _ K24=>A4 fun _ K25=>A2 (A1 I C3) I<|A2 (AL (v:=.int .u8 3) (A6 I Dw (v:=.int .u8 ((r.kind.toNat:Nat):Int)) (hi:=BU r)) (by rw [hk];rfl)) I ?_
  refine A3 K25<|AG<|A4 fun _ K26=>A2 (Ab (i:=3) (j:=1) I I) I<|wA I I<|A3 K26<|AM I<|A4 fun _ K27=>A2 (Ab (i:=3) (j:=2) I I) I<|wA I I<|A3 K27<|AM I<|A4 fun _ K28=>A2 (Ab (i:=3) (j:=4) I I) I<|wA I I ?_
  refine A3 K28<|AM I<|A4 fun _ K29=>A2 (Ab (i:=3) (j:=5) I I) I<|wA I I<|A3 K29<|AM I<|AA<|A5 K24<|A4 fun _ K30=>wM I I<|A2 (A1 I CU) I<|A2 (AI (vs:=r.ix.l.flatMap (eU .u8)) I Cv (hl:=by rw [B5];omega) (hi:=Ci r)) I ?_
  refine A2 (A1 I Bq) I<|A2 (A6 I BF (v:=.int .i64 r.num) (hi:=D4 r)) I<|Cl (fun w h=>B1 (a:=ka2) (cap:=kc2) (e:=19) (T:=83) (f:=BH) (l:=kms2) Bf h) (fun hkf=>?_)
  have hV:Sv [Aa ka2 kc2 19 83 BH kms2] (sl ka2 kms2.length kc2) 19 BH kms2 (ka2.map fun g=>⟨g,0,none⟩) kc2:=BM encKM hkf.1 hkf.2
  obtain⟨k,hkk,hke⟩: ∃k,kms2[i0]? =some k/\k.e=e:=by rw [<-hk2,List.getElem?_map] at he;cases hq:kms2[i0]? with|none=>rw [hq] at he;cases he|some k=>rw [hq] at he;exact⟨k,rfl,Option.some.inj he⟩
  subst hke
  have hil:=(List.getElem?_eq_some_iff.1 hkk).1
  refine Cl (fun w h=>Ez (tU:=5) (tL:=44) (kms:=kms2) Bf h) (fun hkv=>?_)
  have hok:=hkv k (List.mem_of_getElem? hkk)
  have hbl33:=hbl
  refine AB (AE Ii I (hs:=DX (X:=Aa ka2 kc2 19 83 BH kms2) (p:=p) (kvs:=kms2.map KM.kv) (room:=room) (tick:=t) (ix:=r.ix) (num:=r.num) (Et hV) (by rw [List.length_map];have q:=congrArg List.length hk2;have q2:(BW t (kms.map KM.e)).length<=(kms.map KM.e).length:=List.length_filterMap_le _ _;rw [List.length_map] at q q2;omega))) I I I ?_
  rintro _ _ ⟨⟨⟩,rfl,hA⟩
  simp only [ca] at hA
  subst hA
  rw [CO,hk2,hf]
  rw [show GA (some i0)=((i0:Nat):Int) from rfl]
  refine wA I I<|A3 K30<|A7 fun _ K31=>A7 fun _ K32=>Am CE (fun _=>2) ?_
  refine jM 0 I I I hp<|jP 1 I (An (j:=0) I I) I hp<|jM 2 I I I hp<|Be 77 I (fun hg33=>?_) (fun hg33=>?_)
  ·try simp only [dz] at hg33
   refine jK 3 I I hp<|jK 4 I I hp<|jK 5 I I hp<|jK 6 I I hp<|jK 7 I I hp<|jK 8 I I hp<|jK 9 I I hp<|jK 10 I I hp<|jK 11 I I hp<|jK 12 I I hp<|jK 13 I I hp<|jK 14 I I hp<|jP 15 I (AC I I) I hp<|jM 16 I I I hp<|jK 17 I I hp ?_
   refine jK 18 I I hp<|jK 19 I I hp<|jK 20 I I hp<|jK 21 I I hp<|jK 22 I I hp<|jK 23 I I hp<|jK 24 I I hp<|jK 25 I I hp<|jK 26 I I hp<|jK 27 I I hp<|jK 28 I I hp<|jK 29 I I hp<|jK 30 I I hp<|jK 31 I I hp<|jP 32 I (AC I I) I hp ?_
   refine jD<|A5 K32<|Ad I ?_
   exfalso
   first|omega|(simp_all;omega)
  try simp only [dz] at hg33
  refine jP 3 I (A1 I CH) I hp<|jT 4 I (AL (v:=.int .i64 ((at':Nat):Int)) (A6 I BF (v:=.int .i64 r.at_) (hi:=DK r)) (by rw [hat])) I hp AQ ?_
  refine jM 5 I I I hp<|jP 6 I (A9 I) I hp<|jP 7 I (A1 I BB) I hp<|jT 8 I (A6 I CL (v:=sl ka2 kms2.length kc2)) I hp AQ<|jM 9 I I I hp<|jP 10 I (AO i0 I I BV C6 (hA:=hV) (hi:=by omega)) I hp ?_
  refine jP 11 I (A1 I C4) I hp<|jT 12 I (Af (f:=BH) (i:=i0) (j:=17) (y:=k) I Bg (hA:=hV) (hl:=hkk) (hv:=Es k)) I hp AQ ?_
  refine jP 13 I (AL (v:=.int .i64 ((k.e.b.length:Nat):Int)) (BA I I BQ) I) I hp<|jP 14 I (Bz I I) I hp ?_
  refine jP 15 I (A8 I I) I hp<|jM 16 I I I hp<|Be 91 I (fun hg34=>?_) (fun hg34=>?_)
  ·try simp only [dz] at hg34
   refine jK 17 I I hp<|jK 18 I I hp<|jK 19 I I hp<|jK 20 I I hp<|jK 21 I I hp<|jK 22 I I hp<|jK 23 I I hp<|jK 24 I I hp<|jK 25 I I hp<|jK 26 I I hp<|jK 27 I I hp<|jK 28 I I hp<|jK 29 I I hp<|jK 30 I I hp<|jK 31 I I hp ?_
   refine jP 32 I (AC I I) I hp<|jD<|A5 K32<|Ad I ?_
   exfalso
   first|omega|(simp_all;omega)
  try simp only [dz] at hg34
  refine jP 17 I (A1 I Cy) I hp<|jT 18 I (AL (v:=.int .i64 ((ln':Nat):Int)) (A6 I BF (v:=.int .i64 r.len) (hi:=GB r)) (by rw [hln])) I hp AQ ?_
  refine jM 19 I I I hp<|jP 20 I (A9 I) I hp<|jP 21 I (A1 I BB) I hp<|jT 22 I (A6 I CL (v:=sl ka2 kms2.length kc2)) I hp AQ<|jM 23 I I I hp<|jP 24 I (AO i0 I I BV C6 (hA:=hV) (hi:=by omega)) I hp ?_
  refine jP 25 I (A1 I C4) I hp<|jT 26 I (Af (f:=BH) (i:=i0) (j:=17) (y:=k) I Bg (hA:=hV) (hl:=hkk) (hv:=Es k)) I hp AQ ?_
  refine jP 27 I (AL (v:=.int .i64 ((k.e.b.length:Nat):Int)) (BA I I BQ) I) I hp<|jP 28 I (A1 I CH) I hp<|jT 29 I (AL (v:=.int .i64 ((at':Nat):Int)) (A6 I BF (v:=.int .i64 r.at_) (hi:=DK r)) (by rw [hat])) I hp AQ ?_
  refine jP 30 I (Ax I I) I hp<|jP 31 I (Bz I I) I hp ?_
  refine jP 32 I (A8 I I) I hp<|jD<|A5 K32<|AH I (fun hc6=>?_) (fun hc6=>?_)
  ·try simp only [dz] at hc6
   exfalso
   first|omega|(simp_all;omega)
  try simp only [dz] at hc6
  refine AA<|A5 K31<|A4 fun _ K35=>A2 (AL (v:=.agg ([.int .u8 5,.slice none 0 0,.slice none 0 0]:List Value).toArray) (Ah Bp I) I) I<|AB (AZ Ce) I I I ?_
  rintro _ _ ⟨b12,rfl,rfl⟩
  have hpl:((k.e.b.take (at'+ln')).drop at').length=at'+ln' -at':=by rw [List.length_drop,List.length_take];omega
  refine CJ (eU .u8 (w:=8)) 1 5 ?_
  refine AX (AV (ys:= [.int .u8 5,.slice none 0 0,.slice none 0 0]) I I Ba (h1:=by simp [BD,Value.cells,Value.oneCell',sl]) (hr:=I)) I I ?_
  rintro _ _ rfl
  refine A3 K35<|A7 fun _ K36=>BC CE [cl p 24 [.int .i64 room,.int .i64 t,sl ka2 kms2.length kc2],Aa ka2 kc2 19 83 BH kms2,star (CQ 5 44) kms2,cl b12 113 [.int .u8 5,.slice none 0 0,.slice none 0 0],cl b5 47 (CP r)] (fun i=>([2,2,2,2,2,2,2,2,2,2,2,2,2,2,2,2,2,2,1,2,0]:List Nat).getD i 0) ?_
  refine jP 0 I (A1 I Ft) I hp<|jT 1 I (A6 I Bg (v:=.slice none 0 0)) I hp AQ<|jM 2 I I I hp<|jP 3 I (A9 I) I hp<|jP 4 I (A1 I BB) I hp<|jT 5 I (A6 I CL (v:=sl ka2 kms2.length kc2)) I hp AQ<|jM 6 I I I hp<|jP 7 I (AO i0 I I BV C6 (hA:=hV) (hi:=by omega)) I hp ?_
  refine jP 8 I (A1 I C4) I hp<|jT 9 I (Af (f:=BH) (i:=i0) (j:=17) (y:=k) I Bg (hA:=hV) (hl:=hkk) (hv:=Es k)) I hp AQ ?_
  refine jP 10 I (A1 I CH) I hp<|jT 11 I (AL (v:=.int .i64 ((at':Nat):Int)) (A6 I BF (v:=.int .i64 r.at_) (hi:=DK r)) (by rw [hat])) I hp AQ ?_
  refine jP 12 I (A1 I CH) I hp<|jT 13 I (AL (v:=.int .i64 ((at':Nat):Int)) (A6 I BF (v:=.int .i64 r.at_) (hi:=DK r)) (by rw [hat])) I hp AQ ?_
  refine jP 14 I (A1 I Cy) I hp<|jT 15 I (AL (v:=.int .i64 ((ln':Nat):Int)) (A6 I BF (v:=.int .i64 r.len) (hi:=GB r)) (by rw [hln])) I hp AQ ?_
  refine jP 16 I (AN I I) I hp<|jP 17 I (H9 at' (at'+ln') I ⟨_,I⟩ ⟨_,I⟩ BQ Ki (hA:=hok.hb)) I hp ?_
  refine jO 18<|B7 I (E6 (f:=(eU .u8 (w:=8))) (Em .u8) I I BQ BQ Xk (a:=none) (cap:=0) (l:= []) (l2:=((k.e.b.take (at'+ln')).drop at')) (hS:=hok.hb.sub (lo:=at') (hi:=at'+ln') (Nat.le_add_right _ _) h3) (hb:=by rw [List.length_nil,hpl];omega)) I I I I ?_
  rintro _ _ ⟨a83,cap83,rfl,rfl⟩
  rw [List.nil_append,show ([]:List B8).length+((k.e.b.take (at'+ln')).drop at').length=((k.e.b.take (at'+ln')).drop at').length from Nat.zero_add _]
  refine⟨(fun _=>Bh),?_⟩
  refine jP 19 I (A1 I Ft) I hp<|jO 20<|EN I (Ar (ys:= [.int .u8 5,.slice none 0 0,sl a83 ((k.e.b.take (at'+ln')).drop at').length cap83]) I I Gi (hr:=I)) I ?_
  rintro _ _ rfl
  refine jD<|A5 K36<|A4 fun _ K37=>A2 (AI (vs:= [.int .u8 5,.slice none 0 0,sl a83 ((k.e.b.take (at'+ln')).drop at').length cap83]) I Bn) I<|AX (AV (ys:= [.int .u8 5,.slice none 0 0,sl a83 ((k.e.b.take (at'+ln')).drop at').length cap83]) I I Ba (h1:=by simp [BD,Value.cells,Value.oneCell',sl]) (hr:=I)) I I ?_
  rintro _ _ rfl
  refine wA I I<|A3 K37<|AK ?_
  exact hret.gf (⟨(kms2,ka2,kc2),hk2⟩,(a83,cap83)) (Cp rfl rfl rfl Bn)
 try simp only [dz] at hg23
 refine wK I<|wK I<|wK I<|wK I<|wK I<|A2 (A8 I I) I<|A2 (A8 I I) I<|A3 K6<|AM I<|AA<|A5 K5<|A7 fun _ K38=>A4 fun _ K39=>A2 (A1 I C3) I<|A2 (AL (v:=.int .u8 3) (A6 I Dw (v:=.int .u8 ((r.kind.toNat:Nat):Int)) (hi:=BU r)) (by rw [hk];rfl)) I ?_
 refine A3 K39<|AG<|A4 fun _ K40=>A2 (Ab (i:=3) (j:=1) I I) I<|wA I I<|A3 K40<|AM I<|A4 fun _ K41=>A2 (Ab (i:=3) (j:=2) I I) I<|wA I I<|A3 K41<|AM I<|A4 fun _ K42=>A2 (Ab (i:=3) (j:=4) I I) I<|wA I I ?_
 refine A3 K42<|AM I<|A4 fun _ K43=>A2 (Ab (i:=3) (j:=5) I I) I<|wA I I<|A3 K43<|AM I<|AA<|A5 K38<|A4 fun _ K44=>wM I I<|A2 (A1 I CU) I<|A2 (AI (vs:=r.ix.l.flatMap (eU .u8)) I Cv (hl:=by rw [B5];omega) (hi:=Ci r)) I ?_
 refine A2 (A1 I Bq) I<|A2 (A6 I BF (v:=.int .i64 r.num) (hi:=D4 r)) I<|Cl (fun w h=>B1 (a:=ka2) (cap:=kc2) (e:=19) (T:=83) (f:=BH) (l:=kms2) Bf h) (fun hkf=>?_)
 have hV:Sv [Aa ka2 kc2 19 83 BH kms2] (sl ka2 kms2.length kc2) 19 BH kms2 (ka2.map fun g=>⟨g,0,none⟩) kc2:=BM encKM hkf.1 hkf.2
 obtain⟨k,hkk,hke⟩: ∃k,kms2[i0]? =some k/\k.e=e:=by rw [<-hk2,List.getElem?_map] at he;cases hq:kms2[i0]? with|none=>rw [hq] at he;cases he|some k=>rw [hq] at he;exact⟨k,rfl,Option.some.inj he⟩
 subst hke
 have hil:=(List.getElem?_eq_some_iff.1 hkk).1
 refine Cl (fun w h=>Ez (tU:=5) (tL:=44) (kms:=kms2) Bf h) (fun hkv=>?_)
 have hok:=hkv k (List.mem_of_getElem? hkk)
 have hbl33:=hbl
 refine AB (AE Ii I (hs:=DX (X:=Aa ka2 kc2 19 83 BH kms2) (p:=p) (kvs:=kms2.map KM.kv) (room:=room) (tick:=t) (ix:=r.ix) (num:=r.num) (Et hV) (by rw [List.length_map];have q:=congrArg List.length hk2;have q2:(BW t (kms.map KM.e)).length<=(kms.map KM.e).length:=List.length_filterMap_le _ _;rw [List.length_map] at q q2;omega))) I I I ?_
 rintro _ _ ⟨⟨⟩,rfl,hA⟩
 simp only [ca] at hA
 subst hA
 rw [CO,hk2,hf]
 rw [show GA (some i0)=((i0:Nat):Int) from rfl]
 refine wA I I<|A3 K44<|A7 fun _ K45=>A7 fun _ K46=>Am CE (fun _=>2) ?_
 refine jM 0 I I I hp<|jP 1 I (An (j:=0) I I) I hp<|jM 2 I I I hp<|Be 77 I (fun hg47=>?_) (fun hg47=>?_)
 ·try simp only [dz] at hg47
  refine jK 3 I I hp<|jK 4 I I hp<|jK 5 I I hp<|jK 6 I I hp<|jK 7 I I hp<|jK 8 I I hp<|jK 9 I I hp<|jK 10 I I hp<|jK 11 I I hp<|jK 12 I I hp<|jK 13 I I hp<|jK 14 I I hp<|jP 15 I (AC I I) I hp<|jM 16 I I I hp<|jK 17 I I hp ?_
  refine jK 18 I I hp<|jK 19 I I hp<|jK 20 I I hp<|jK 21 I I hp<|jK 22 I I hp<|jK 23 I I hp<|jK 24 I I hp<|jK 25 I I hp<|jK 26 I I hp<|jK 27 I I hp<|jK 28 I I hp<|jK 29 I I hp<|jK 30 I I hp<|jK 31 I I hp<|jP 32 I (AC I I) I hp ?_
  refine jD<|A5 K46<|Ad I ?_
  exfalso
  first|omega|(simp_all;omega)
 try simp only [dz] at hg47
 refine jP 3 I (A1 I CH) I hp<|jT 4 I (AL (v:=.int .i64 ((at':Nat):Int)) (A6 I BF (v:=.int .i64 r.at_) (hi:=DK r)) (by rw [hat])) I hp AQ ?_
 refine jM 5 I I I hp<|jP 6 I (A9 I) I hp<|jP 7 I (A1 I BB) I hp<|jT 8 I (A6 I CL (v:=sl ka2 kms2.length kc2)) I hp AQ<|jM 9 I I I hp<|jP 10 I (AO i0 I I BV C6 (hA:=hV) (hi:=by omega)) I hp ?_
 refine jP 11 I (A1 I C4) I hp<|jT 12 I (Af (f:=BH) (i:=i0) (j:=17) (y:=k) I Bg (hA:=hV) (hl:=hkk) (hv:=Es k)) I hp AQ ?_
 refine jP 13 I (AL (v:=.int .i64 ((k.e.b.length:Nat):Int)) (BA I I BQ) I) I hp<|jP 14 I (Bz I I) I hp ?_
 refine jP 15 I (A8 I I) I hp<|jM 16 I I I hp<|Be 91 I (fun hg48=>?_) (fun hg48=>?_)
 ·try simp only [dz] at hg48
  refine jK 17 I I hp<|jK 18 I I hp<|jK 19 I I hp<|jK 20 I I hp<|jK 21 I I hp<|jK 22 I I hp<|jK 23 I I hp<|jK 24 I I hp<|jK 25 I I hp<|jK 26 I I hp<|jK 27 I I hp<|jK 28 I I hp<|jK 29 I I hp<|jK 30 I I hp<|jK 31 I I hp ?_
  refine jP 32 I (AC I I) I hp<|jD<|A5 K46<|Ad I ?_
  exfalso
  first|omega|(simp_all;omega)
 try simp only [dz] at hg48
 refine jP 17 I (A1 I Cy) I hp<|jT 18 I (AL (v:=.int .i64 ((ln':Nat):Int)) (A6 I BF (v:=.int .i64 r.len) (hi:=GB r)) (by rw [hln])) I hp AQ ?_
 refine jM 19 I I I hp<|jP 20 I (A9 I) I hp<|jP 21 I (A1 I BB) I hp<|jT 22 I (A6 I CL (v:=sl ka2 kms2.length kc2)) I hp AQ<|jM 23 I I I hp<|jP 24 I (AO i0 I I BV C6 (hA:=hV) (hi:=by omega)) I hp ?_
 refine jP 25 I (A1 I C4) I hp<|jT 26 I (Af (f:=BH) (i:=i0) (j:=17) (y:=k) I Bg (hA:=hV) (hl:=hkk) (hv:=Es k)) I hp AQ ?_
 refine jP 27 I (AL (v:=.int .i64 ((k.e.b.length:Nat):Int)) (BA I I BQ) I) I hp<|jP 28 I (A1 I CH) I hp<|jT 29 I (AL (v:=.int .i64 ((at':Nat):Int)) (A6 I BF (v:=.int .i64 r.at_) (hi:=DK r)) (by rw [hat])) I hp AQ ?_
 refine jP 30 I (Ax I I) I hp<|jP 31 I (Bz I I) I hp ?_
 refine jP 32 I (A8 I I) I hp<|jD<|A5 K46<|AH I (fun hc6=>?_) (fun hc6=>?_)
 ·try simp only [dz] at hc6
  exfalso
  first|omega|(simp_all;omega)
 try simp only [dz] at hc6
 refine AA<|A5 K45<|A4 fun _ K49=>A2 (AL (v:=.agg ([.int .u8 5,.slice none 0 0,.slice none 0 0]:List Value).toArray) (Ah Bp I) I) I<|AB (AZ Ce) I I I ?_
 rintro _ _ ⟨b12,rfl,rfl⟩
 have hpl:((k.e.b.take (at'+ln')).drop at').length=at'+ln' -at':=by rw [List.length_drop,List.length_take];omega
 refine CJ (eU .u8 (w:=8)) 1 5 ?_
 refine AX (AV (ys:= [.int .u8 5,.slice none 0 0,.slice none 0 0]) I I Ba (h1:=by simp [BD,Value.cells,Value.oneCell',sl]) (hr:=I)) I I ?_
 rintro _ _ rfl
 refine A3 K49<|A7 fun _ K50=>BC CE [cl p 24 [.int .i64 room,.int .i64 t,sl ka2 kms2.length kc2],Aa ka2 kc2 19 83 BH kms2,star (CQ 5 44) kms2,cl b12 113 [.int .u8 5,.slice none 0 0,.slice none 0 0],cl b5 47 (CP r)] (fun i=>([2,2,2,2,2,2,2,2,2,2,2,2,2,2,2,2,2,2,1,2,0]:List Nat).getD i 0) ?_
 refine jP 0 I (A1 I Ft) I hp<|jT 1 I (A6 I Bg (v:=.slice none 0 0)) I hp AQ<|jM 2 I I I hp<|jP 3 I (A9 I) I hp<|jP 4 I (A1 I BB) I hp<|jT 5 I (A6 I CL (v:=sl ka2 kms2.length kc2)) I hp AQ<|jM 6 I I I hp<|jP 7 I (AO i0 I I BV C6 (hA:=hV) (hi:=by omega)) I hp ?_
 refine jP 8 I (A1 I C4) I hp<|jT 9 I (Af (f:=BH) (i:=i0) (j:=17) (y:=k) I Bg (hA:=hV) (hl:=hkk) (hv:=Es k)) I hp AQ ?_
 refine jP 10 I (A1 I CH) I hp<|jT 11 I (AL (v:=.int .i64 ((at':Nat):Int)) (A6 I BF (v:=.int .i64 r.at_) (hi:=DK r)) (by rw [hat])) I hp AQ ?_
 refine jP 12 I (A1 I CH) I hp<|jT 13 I (AL (v:=.int .i64 ((at':Nat):Int)) (A6 I BF (v:=.int .i64 r.at_) (hi:=DK r)) (by rw [hat])) I hp AQ ?_
 refine jP 14 I (A1 I Cy) I hp<|jT 15 I (AL (v:=.int .i64 ((ln':Nat):Int)) (A6 I BF (v:=.int .i64 r.len) (hi:=GB r)) (by rw [hln])) I hp AQ ?_
 refine jP 16 I (AN I I) I hp<|jP 17 I (H9 at' (at'+ln') I ⟨_,I⟩ ⟨_,I⟩ BQ Ki (hA:=hok.hb)) I hp ?_
 refine jO 18<|B7 I (E6 (f:=(eU .u8 (w:=8))) (Em .u8) I I BQ BQ Xk (a:=none) (cap:=0) (l:= []) (l2:=((k.e.b.take (at'+ln')).drop at')) (hS:=hok.hb.sub (lo:=at') (hi:=at'+ln') (Nat.le_add_right _ _) h3) (hb:=by rw [List.length_nil,hpl];omega)) I I I I ?_
 rintro _ _ ⟨a83,cap83,rfl,rfl⟩
 rw [List.nil_append,show ([]:List B8).length+((k.e.b.take (at'+ln')).drop at').length=((k.e.b.take (at'+ln')).drop at').length from Nat.zero_add _]
 refine⟨(fun _=>Bh),?_⟩
 refine jP 19 I (A1 I Ft) I hp<|jO 20<|EN I (Ar (ys:= [.int .u8 5,.slice none 0 0,sl a83 ((k.e.b.take (at'+ln')).drop at').length cap83]) I I Gi (hr:=I)) I ?_
 rintro _ _ rfl
 refine jD<|A5 K50<|A4 fun _ K51=>A2 (AI (vs:= [.int .u8 5,.slice none 0 0,sl a83 ((k.e.b.take (at'+ln')).drop at').length cap83]) I Bn) I<|AX (AV (ys:= [.int .u8 5,.slice none 0 0,sl a83 ((k.e.b.take (at'+ln')).drop at').length cap83]) I I Ba (h1:=by simp [BD,Value.cells,Value.oneCell',sl]) (hr:=I)) I I ?_
 rintro _ _ rfl
 refine wA I I<|A3 K51<|AK ?_
 exact hret.gf (⟨(kms2,ka2,kc2),hk2⟩,(a83,cap83)) (Cp rfl rfl rfl Bn)
end Go.Proofs.YtoakfknnaiapiaaGreat
