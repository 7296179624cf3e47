/-
  Contracts of functions that the claim reaches, or the logic and the plain laws that they rest on, or the row over them. (Conditions: none beyond the statement.)
-/
import Derived.Test.YtoakfknnaiapiaaGreatKAC
import Derived.Test.YtoakfknnaiapiaaGreatKAB
set_option linter.all false
namespace Go.Proofs.YtoakfknnaiapiaaGreat
open Go.RowKit Go.SL Go.ShM Go.SvM
set_option maxHeartbeats 1000000
set_option maxRecDepth 20000
set_option linter.all false
theorem NL:DF Tryz.prog 41=true:=by kernel_rfl
theorem Xk:el Tryz.prog 5=some (1,1):=by kernel_rfl
theorem G0:SG Tryz.prog 94=some ([.int .u8 0,.int .u8 0,.int .u8 0,.int .u8 0,.int .u8 0,.int .u8 0,.int .u8 0,.int .u8 0,.int .u8 0,.int .u8 0,.int .u8 0,.int .u8 0,.int .u8 0,.int .u8 0,.int .u8 0,.int .u8 0,.int .i64 0],[(0,16),(16,1)]):=by kernel_rfl
theorem Ki:sz Tryz.prog 5=some 1:=by kernel_rfl
theorem gY:zr Tryz.prog 5=some [.int .u8 0]:=by kernel_rfl
theorem Xf{b m:Nat}{room tick:Int}{L:List En}{r:Rq}(hf:DV (r.ix,r.num) L=none):Ct Tryz.prog 70 [.pointer (some ⟨b,0,none⟩),.agg (CP r).toArray] [cl b 90 [.bool true,.int .i64 room,.int .i64 tick,.int .i64 (((Ap L):Nat):Int),.map (some m)],Bs m By Cc (L.map En.kp),star (Cb 102 5) L] (fun _:Unit=>.agg [.int .u8 6,.slice none 0 0,.slice none 0 0].toArray) (fun _=> [cl b 90 [.bool true,.int .i64 room,.int .i64 tick,.int .i64 (((Ap L):Nat):Int),.map (some m)],Bs m By Cc (L.map En.kp),star (Cb 102 5) L]):=by
 refine AY (n:=50) Tryz.func70 I I I fun F w0 Q hret hnorm hp=>?_
 change WC _ _ _ _ _ _ _ (_::_::_::F)
 refine A4 fun _ K1=>AB (Ay (xs:=CP r) I I) I I I ?_
 rintro _ _ ⟨b3,rfl,rfl⟩
 refine AB (AZ Ce) I I I ?_
 rintro _ _ ⟨b4,rfl,rfl⟩
 refine A3 K1<|A7 fun _ K2=>Am CE (fun _=>2) ?_
 refine jM 0 I I I hp<|jP 1 I (A9 I) I hp<|jP 2 I (A1 I De) I hp<|jT 3 I (A6 I Fg (v:=.map (some m))) I hp AQ<|jP 4 I (A1 I CU) I hp<|jT 5 I (AI (vs:=r.ix.l.flatMap (eU .u8)) I Cv (hl:=by rw [B5];omega) (hi:=Ci r)) I hp AQ ?_
 refine jP 6 I (A1 I Bq) I hp<|jT 7 I (A6 I BF (v:=.int .i64 r.num) (hi:=D4 r)) I hp AQ<|jP 8 I (AL (v:=By (r.ix,r.num)) (Ah G0 I (hf:=DU _ _)) I) I hp ?_
 refine jT 9 I (AL (v:=.tuple #[.pointer none,.bool false]) (DT G9 I I FZ Ro) (by rw [IQ,hf];rfl)) I hp AQ ?_
 refine jM 10 I I I hp<|jP 11 I (BE I) I hp<|jP 12 I (BN I) I hp<|jP 13 I (Ag I) I hp<|jP 14 I (Ag I) I hp<|jD<|A5 K2<|A7 fun _ K3=>A7 fun _ K4=>Am CE (fun _=>2) ?_
 refine jM 0 I I I hp<|jP 1 I (Au I) I hp<|jM 2 I I I hp<|jK 3 I I hp<|jK 4 I I hp<|jK 5 I I hp<|jK 6 I I hp<|jK 7 I I hp<|jK 8 I I hp<|jK 9 I I hp<|jK 10 I I hp<|jK 11 I I hp<|jK 12 I I hp<|jK 13 I I hp<|jP 14 I (AC I I) I hp ?_
 refine jD<|A5 K4<|Ad I<|A4 fun _ K5=>A2 (Ah Bp I) I<|AX (AV (ys:= [.int .u8 6,.slice none 0 0,.slice none 0 0]) I I Ba (h1:=by simp [BD,Value.cells,Value.oneCell',sl]) (hr:=I)) I I ?_
 rintro _ _ rfl
 refine A3 K5<|AK ?_
 exact hret.go () (Fl rfl rfl Bn)

theorem V1{b m:Nat}{room tick:Int}{A B:List En}{x:En}{r:Rq}(hf:DV (r.ix,r.num) (A++x::B)=some x)(h1:0<=r.at_/\r.at_<=33554432)(h2:1<=r.len/\r.len<=131072)(h3:(x.e.b.length:Int)<r.at_+r.len):Ct Tryz.prog 70 [.pointer (some ⟨b,0,none⟩),.agg (CP r).toArray] [cl b 90 [.bool true,.int .i64 room,.int .i64 tick,.int .i64 (((Ap (A++x::B)):Nat):Int),.map (some m)],Bs m By Cc ((A++x::B).map En.kp),star (Cb 102 5) (A++x::B)] (fun _:Unit=>.agg [.int .u8 6,.slice none 0 0,.slice none 0 0].toArray) (fun _=> [cl b 90 [.bool true,.int .i64 room,.int .i64 tick,.int .i64 (((Ap (A++x::B)):Nat):Int),.map (some m)],Bs m By Cc ((A++x::B).map En.kp),star (Cb 102 5) (A++x::B)]):=by
 refine AY (n:=50) Tryz.func70 I I I fun F w0 Q hret hnorm hp=>?_
 change WC _ _ _ _ _ _ _ (_::_::_::F)
 obtain⟨h10,h11⟩:=h1
 obtain⟨h20,h21⟩:=h2
 refine ED 102 5 A x B ?_
 refine A4 fun _ K1=>AB (Ay (xs:=CP r) I I) I I I ?_
 rintro _ _ ⟨b3,rfl,rfl⟩
 refine AB (AZ Ce) I I I ?_
 rintro _ _ ⟨b4,rfl,rfl⟩
 refine A3 K1<|A7 fun _ K2=>Am CE (fun _=>2) ?_
 refine jM 0 I I I hp<|jP 1 I (A9 I) I hp<|jP 2 I (A1 I De) I hp<|jT 3 I (A6 I Fg (v:=.map (some m))) I hp AQ<|jP 4 I (A1 I CU) I hp<|jT 5 I (AI (vs:=r.ix.l.flatMap (eU .u8)) I Cv (hl:=by rw [B5];omega) (hi:=Ci r)) I hp AQ ?_
 refine jP 6 I (A1 I Bq) I hp<|jT 7 I (A6 I BF (v:=.int .i64 r.num) (hi:=D4 r)) I hp AQ<|jP 8 I (AL (v:=By (r.ix,r.num)) (Ah G0 I (hf:=DU _ _)) I) I hp ?_
 refine jT 9 I (AL (v:=.tuple #[.pointer (some ⟨x.p,0,none⟩),.bool true]) (DT G9 I I FZ Ro) (by rw [IQ,hf];rfl)) I hp AQ ?_
 refine jM 10 I I I hp<|jP 11 I (BE I) I hp<|jP 12 I (BN I) I hp<|jP 13 I (Ag I) I hp<|jP 14 I (Ag I) I hp<|jD<|A5 K2<|A7 fun _ K3=>A7 fun _ K4=>Am CE (fun _=>2) ?_
 refine jM 0 I I I hp<|jP 1 I (Au I) I hp<|jM 2 I I I hp<|jP 3 I (A1 I CH) I hp<|jT 4 I (A6 I BF (v:=.int .i64 r.at_) (hi:=DK r)) I hp AQ<|jP 5 I (A1 I Cy) I hp<|jT 6 I (A6 I BF (v:=.int .i64 r.len) (hi:=GB r)) I hp AQ<|jP 7 I (MH I I (JV I (by omega) (by omega))) I hp ?_
 refine jM 8 I I I hp<|jP 9 I (A9 I) I hp<|jP 10 I (A1 I El) I hp<|jT 11 I (A6 I Bg (v:=sl x.a x.e.b.length x.cap)) I hp AQ<|jP 12 I (BA I I BQ) I hp<|jP 13 I (DI I I) I hp ?_
 refine jP 14 I (A8 I I) I hp<|jD<|A5 K4<|AH I (fun hc0=>?_) (fun hc0=>?_)
 ·try simp only [dz] at hc0
  refine A4 fun _ K5=>A2 (Ah Bp I) I<|AX (AV (ys:= [.int .u8 6,.slice none 0 0,.slice none 0 0]) I I Ba (h1:=by simp [BD,Value.cells,Value.oneCell',sl]) (hr:=I)) I I ?_
  rintro _ _ rfl
  refine A3 K5<|AK<|Fp 102 5 A x B ?_
  exact hret.go () (Fl rfl rfl Bn)
 try simp only [dz] at hc0
 omega

theorem Ef{X:Ao}{v:Value}{l:List B8}{ao:Option Addr}{cap:Nat}(hS:Sv [X] v 1 (eU .u8 (w:=8)) l ao cap:=by assumption)(hl:l.length<=900000000000:=by omega):Ct Tryz.prog 41 [v] [X] (fun g:Option Nat × Nat=>sl g.1 l.length g.2) (fun g=> [X,Aa g.1 g.2 1 5 (eU .u8 (w:=8)) l]):=by
 refine AY (n:=8) Tryz.func41 I I I fun F w0 Q hret hnorm hp=>?_
 change WC _ _ _ _ _ _ _ (_::F)
 have hv0:=hS.val
 subst hv0
 refine A4 fun _ K1=>A2 (Ag (v:=sl none 0 0) I) I<|A3 K1<|A7 fun _ K2=>A4 fun _ K3=>wM I I<|A2 (eS I I BQ) I ?_
 refine A3 K3<|AH I (fun hc0=>?_) (fun hc0=>?_)
 ·try simp only [dz] at hc0
  have hnil:=Z8 hS hc0
  subst hnil
  refine Cz (fun w h=>BO (e:=1) (T:=5) (f:=(eU .u8 (w:=8))) h) ?_
  refine A4 fun _ K4=>A2 (Ag (v:=sl none 0 0) I) I<|A3 K4<|AK ?_
  first|exact hret.go (none,0) (BR rfl rfl)|exact hret.go (a7,cap7) (BR rfl rfl)
 try simp only [dz] at hc0
 refine AA<|A5 K2<|A4 fun _ K5=>AB (Ys (f:=(eU .u8 (w:=8))) (zs:= [.int .u8 0]) (bs:= []) [] (Em .u8) BQ gY Ki I (by rw [Array.toList_map,Array.toList_range];rfl) (by rfl) (by rfl) (by rfl) (by rfl)) I I I ?_
 rintro _ _ ⟨b5,rfl,rfl⟩
 refine wM I I<|AB (E6 (f:=(eU .u8 (w:=8))) (Em .u8) I I BQ BQ Xk (hS:=hS) (hb:=by simp only [List.length_nil];omega)) I I I ?_
 rintro _ _ ⟨a7,cap7,rfl,rfl⟩
 rw [show ([]:List B8).length+l.length=l.length from Nat.zero_add _,List.nil_append]
 refine wA I I<|A3 K5<|AK ?_
 first|exact hret.go (none,0) (BR rfl rfl)|exact hret.go (a7,cap7) (BR rfl rfl)

theorem Xg{b m at' ln':Nat}{room tick:Int}{A B:List En}{x:En}{r:Rq}(hf:DV (r.ix,r.num) (A++x::B)=some x)(hat:r.at_=((at':Nat):Int))(hln:r.len=((ln':Nat):Int))(h1:at'<=33554432)(h2:ln'<=131072)(h3:at'+ln'<=x.e.b.length):Ct Tryz.prog 70 [.pointer (some ⟨b,0,none⟩),.agg (CP r).toArray] [cl b 90 [.bool true,.int .i64 room,.int .i64 tick,.int .i64 (((Ap (A++x::B)):Nat):Int),.map (some m)],Bs m By Cc ((A++x::B).map En.kp),star (Cb 102 5) (A++x::B)] (fun g:Option Nat × Nat=>.agg [.int .u8 5,.slice none 0 0,sl g.1 ((x.e.b.take (at'+ln')).drop at').length g.2].toArray) (fun g=> [cl b 90 [.bool true,.int .i64 room,.int .i64 tick,.int .i64 (((Ap (A++x::B)):Nat):Int),.map (some m)],Bs m By Cc ((A++x::B).map En.kp),star (Cb 102 5) (A++x::B),Aa g.1 g.2 1 5 (eU .u8 (w:=8)) ((x.e.b.take (at'+ln')).drop at')]):=by
 refine AY (n:=50) Tryz.func70 I I I fun F w0 Q hret hnorm hp=>?_
 change WC _ _ _ _ _ _ _ (_::_::_::F)
 refine ED 102 5 A x B ?_
 refine Bu (fun w h=>B1 (a:=x.a) (cap:=x.cap) (e:=1) (T:=5) (f:=(eU .u8 (w:=8))) (l:=x.e.b) Bf h) (fun hxf=>?_)
 have hxS:Sv [Aa x.a x.cap 1 5 (eU .u8 (w:=8)) x.e.b] (sl x.a x.e.b.length x.cap) 1 (eU .u8 (w:=8)) x.e.b (x.a.map fun g=>⟨g,0,none⟩) x.cap:=BM (T:=5) (Em .u8 (w:=8)) hxf.1 hxf.2
 have hxP:=hxS.sub (lo:=at') (hi:=at'+ln') (Nat.le_add_right _ _) h3
 have hpl:((x.e.b.take (at'+ln')).drop at').length=at'+ln' -at':=by rw [List.length_drop,List.length_take];omega
 refine A4 fun _ K1=>AB (Ay (xs:=CP r) I I) I I I ?_
 rintro _ _ ⟨b3,rfl,rfl⟩
 refine AB (AZ Ce) I I I ?_
 rintro _ _ ⟨b4,rfl,rfl⟩
 refine A3 K1<|A7 fun _ K2=>Am CE (fun _=>2) ?_
 refine jM 0 I I I hp<|jP 1 I (A9 I) I hp<|jP 2 I (A1 I De) I hp<|jT 3 I (A6 I Fg (v:=.map (some m))) I hp AQ<|jP 4 I (A1 I CU) I hp<|jT 5 I (AI (vs:=r.ix.l.flatMap (eU .u8)) I Cv (hl:=by rw [B5];omega) (hi:=Ci r)) I hp AQ ?_
 refine jP 6 I (A1 I Bq) I hp<|jT 7 I (A6 I BF (v:=.int .i64 r.num) (hi:=D4 r)) I hp AQ<|jP 8 I (AL (v:=By (r.ix,r.num)) (Ah G0 I (hf:=DU _ _)) I) I hp ?_
 refine jT 9 I (AL (v:=.tuple #[.pointer (some ⟨x.p,0,none⟩),.bool true]) (DT G9 I I FZ Ro) (by rw [IQ,hf];rfl)) I hp AQ ?_
 refine jM 10 I I I hp<|jP 11 I (BE I) I hp<|jP 12 I (BN I) I hp<|jP 13 I (Ag I) I hp<|jP 14 I (Ag I) I hp<|jD<|A5 K2<|A7 fun _ K3=>A7 fun _ K4=>Am CE (fun _=>2) ?_
 refine jM 0 I I I hp<|jP 1 I (Au I) I hp<|jM 2 I I I hp<|jP 3 I (A1 I CH) I hp<|jT 4 I (AL (v:=.int .i64 ((at':Nat):Int)) (A6 I BF (v:=.int .i64 r.at_) (hi:=DK r)) (by rw [hat])) I hp AQ ?_
 refine jP 5 I (A1 I Cy) I hp<|jT 6 I (AL (v:=.int .i64 ((ln':Nat):Int)) (A6 I BF (v:=.int .i64 r.len) (hi:=GB r)) (by rw [hln])) I hp AQ ?_
 refine jP 7 I (AN I I) I hp<|jM 8 I I I hp<|jP 9 I (A9 I) I hp<|jP 10 I (A1 I El) I hp<|jT 11 I (A6 I Bg (v:=sl x.a x.e.b.length x.cap)) I hp AQ<|jP 12 I (BA I I BQ) I hp<|jP 13 I (Bz I I) I hp ?_
 refine jP 14 I (A8 I I) I hp<|jD<|A5 K4<|AH I (fun hc0=>?_) (fun hc0=>?_)
 ·try simp only [dz] at hc0
  omega
 try simp only [dz] at hc0
 refine AA<|A5 K3<|A7 fun _ K5=>Am CE (fun i=>([2,2,2,2,2,2,2,2,2,2,2,2,1,2,0]:List Nat).getD i 0) ?_
 refine jM 0 I I I hp<|jP 1 I (A9 I) I hp<|jP 2 I (A1 I El) I hp<|jT 3 I (A6 I Bg (v:=sl x.a x.e.b.length x.cap)) I hp AQ<|jP 4 I (A1 I CH) I hp<|jT 5 I (AL (v:=.int .i64 ((at':Nat):Int)) (A6 I BF (v:=.int .i64 r.at_) (hi:=DK r)) (by rw [hat])) I hp AQ ?_
 refine jP 6 I (A1 I CH) I hp<|jT 7 I (AL (v:=.int .i64 ((at':Nat):Int)) (A6 I BF (v:=.int .i64 r.at_) (hi:=DK r)) (by rw [hat])) I hp AQ ?_
 refine jP 8 I (A1 I Cy) I hp<|jT 9 I (AL (v:=.int .i64 ((ln':Nat):Int)) (A6 I BF (v:=.int .i64 r.len) (hi:=GB r)) (by rw [hln])) I hp AQ ?_
 refine jP 10 I (AN I I) I hp<|jP 11 I (H9 at' (at'+ln') I ⟨_,I⟩ ⟨_,I⟩ BQ Ki (hA:=hxS)) I hp ?_
 refine jO 12<|B7 I (AE NL I (hs:=Ef (X:=Aa x.a x.cap 1 5 (eU .u8 (w:=8)) x.e.b) (l:=((x.e.b.take (at'+ln')).drop at')) (hS:=hxP))) I I I I ?_
 rintro _ _ ⟨⟨a48,cap48⟩,rfl,hA⟩
 simp only [ca] at hA
 subst hA
 refine⟨(fun _=>AQ),?_⟩
 refine jP 13 I (Ah Bp I) I hp<|jO 14<|EN I (AV (ys:= [.int .u8 5,.slice none 0 0,sl a48 ((x.e.b.take (at'+ln')).drop at').length cap48]) I I Ba (h1:=by simp [BD,Value.cells,Value.oneCell',sl]) (hr:=I)) I ?_
 rintro _ _ rfl
 refine jD<|A5 K5<|AK<|Fp 102 5 A x B ?_
 exact hret.go (a48,cap48) (Fl rfl rfl Bn)
end Go.Proofs.YtoakfknnaiapiaaGreat
namespace Go.Proofs.YtoakfknnaiapiaaGreat
open Go.RowKit Go.SL Go.ShM Go.SvM
set_option maxHeartbeats 1000000
set_option maxRecDepth 20000
set_option linter.all false
theorem Jh:fo Tryz.prog 90 1=some (1,3):=by kernel_rfl
theorem JZ:SG Tryz.prog 102=some ([.slice none 0 0,.map none],[(0,1),(1,1)]):=by kernel_rfl
theorem S3{b m:Nat}{room tick:Int}{L:List En}{r:Rq}{Y:Ao}(hf:DV (r.ix,r.num) L=none)(hB:Sv [Y] r.b.v 1 (eU .u8 (w:=8)) r.b.l r.b.ao r.b.cap)(hbl:r.b.l.length<=33554432)(hu:Ap L<=1073741824)(hr:0<=room/\room<=1073741824)(hfull:room -(Ap L:Int)<(r.b.l.length:Int)):Ct Tryz.prog 69 [.pointer (some ⟨b,0,none⟩),.agg (CP r).toArray] [cl b 90 [.bool true,.int .i64 room,.int .i64 tick,.int .i64 (((Ap L):Nat):Int),.map (some m)],Bs m By Cc (L.map En.kp),star (Cb 102 5) L,Y] (fun _:Unit=>.agg [.int .u8 3,.slice none 0 0,.slice none 0 0].toArray) (fun _=> [cl b 90 [.bool true,.int .i64 room,.int .i64 tick,.int .i64 (((Ap L):Nat):Int),.map (some m)],Bs m By Cc (L.map En.kp),star (Cb 102 5) L,Y]):=by
 refine AY (n:=107) Tryz.func69 I I I fun F w0 Q hret hnorm hp=>?_
 change WC _ _ _ _ _ _ _ (_::_::_::_::F)
 obtain⟨hr0,hr1⟩:=hr
 refine A4 fun _ K1=>AB (Ay (xs:=CP r) I I) I I I ?_
 rintro _ _ ⟨b3,rfl,rfl⟩
 refine AB (AZ Ce) I I I ?_
 rintro _ _ ⟨b4,rfl,rfl⟩
 refine A3 K1<|A4 fun _ K2=>A2 (A1 I CU) I<|A2 (AI (vs:=r.ix.l.flatMap (eU .u8)) I Cv (hl:=by rw [B5];omega) (hi:=Ci r)) I ?_
 refine A2 (A1 I Bq) I<|A2 (A6 I BF (v:=.int .i64 r.num) (hi:=D4 r)) I<|A2 (AL (v:=By (r.ix,r.num)) (Ah G0 I (hf:=DU _ _)) I) I ?_
 refine AB (AZ JG) I I I ?_
 rintro _ _ ⟨b5,rfl,rfl⟩
 refine AX (AV (ys:=Dt (r.ix,r.num)) I I Hk (h1:=encK.one _) (hv:=by simpa [Value.cells,By] using Aw (r.ix,r.num)) (hr:=by simp [Value.cells,By])) I I ?_
 rintro _ _ rfl
 refine A3 K2<|A7 fun _ K3=>Am CE (fun _=>2) ?_
 refine jM 0 I I I hp<|jP 1 I (A9 I) I hp<|jP 2 I (A1 I De) I hp<|jT 3 I (A6 I Fg (v:=.map (some m))) I hp AQ<|jT 4 I (AI (vs:=Dt (r.ix,r.num)) I Ff (hl:=by rw [Aw];omega) (hi:=by rw [List.drop_zero];exact List.take_of_length_le (Nat.le_of_eq (Aw (r.ix,r.num))))) I hp AQ ?_
 refine jT 5 I (AL (v:=.tuple #[.pointer none,.bool false]) (DT G9 I I FZ Ro) (by rw [IQ,hf];rfl)) I hp AQ ?_
 refine jM 6 I I I hp<|jP 7 I (BE I) I hp<|jP 8 I (BN I) I hp<|jP 9 I (Ag I) I hp<|jP 10 I (Ag I) I hp<|jD<|A5 K3<|A7 fun _ K4=>A4 fun _ K5=>wM I I<|A2 (Au I) I<|A3 K5<|Ad I<|A7 fun _ K6=>A7 fun _ K7=>?_
 refine Am CE (fun _=>2) ?_
 refine jP 0 I (A1 I CG) I hp<|jT 1 I (A6 I Bg (v:=r.b.v) (hi:=G5 r)) I hp AQ<|jP 2 I (Al I I BQ (hA:=hB)) I hp ?_
 refine jM 3 I I I hp<|jP 4 I (A9 I) I hp<|jP 5 I (A1 I Jh) I hp<|jT 6 I (A6 I BF) I hp AQ ?_
 refine jM 7 I I I hp<|jP 8 I (A9 I) I hp<|jP 9 I (A1 I Df) I hp<|jT 10 I (A6 I BF) I hp AQ ?_
 refine jP 11 I (GY I I (JV I (by omega) (by omega))) I hp ?_
 refine jP 12 I (DI I I) I hp ?_
 refine jD<|A5 K7<|AH I (fun hc1=>?_) (fun hc1=>?_)
 ·try simp only [dz] at hc1
  refine A4 fun _ K8=>A2 (Ah Bp I) I<|AX (AV (ys:= [.int .u8 3,.slice none 0 0,.slice none 0 0]) I I Ba (h1:=by simp [BD,Value.cells,Value.oneCell',sl]) (hr:=I)) I I ?_
  rintro _ _ rfl
  refine A3 K8<|AK ?_
  exact hret.go () (Fl rfl rfl Bn)
 try simp only [dz] at hc1
 omega

theorem UI{b m:Nat}{room tick:Int}{L:List En}{r:Rq}{Y:Ao}(hf:DV (r.ix,r.num) L=none)(hB:Sv [Y] r.b.v 1 (eU .u8 (w:=8)) r.b.l r.b.ao r.b.cap)(hbl:r.b.l.length<=33554432)(hu:Ap L<=1073741824)(hr:0<=room/\room<=1073741824)(hfit:(r.b.l.length:Int)<=room -(Ap L:Int)):Ct Tryz.prog 69 [.pointer (some ⟨b,0,none⟩),.agg (CP r).toArray] [cl b 90 [.bool true,.int .i64 room,.int .i64 tick,.int .i64 (((Ap L):Nat):Int),.map (some m)],Bs m By Cc (L.map En.kp),star (Cb 102 5) L,Y] (fun g:En=>.agg [.int .u8 2,.slice none 0 0,.slice none 0 0].toArray) (fun g=> [cl b 90 [.bool true,.int .i64 room,.int .i64 tick,.int .i64 (((Ap (Gy (⟨⟨r.ix,r.num,r.b.l,[(r.who,r.un)]⟩,g.p,g.a,g.cap,g.m⟩:En) L)):Nat):Int),.map (some m)],Bs m By Cc ((Gy (⟨⟨r.ix,r.num,r.b.l,[(r.who,r.un)]⟩,g.p,g.a,g.cap,g.m⟩:En) L).map En.kp),star (Cb 102 5) (Gy (⟨⟨r.ix,r.num,r.b.l,[(r.who,r.un)]⟩,g.p,g.a,g.cap,g.m⟩:En) L),Y]):=by
 refine AY (n:=107) Tryz.func69 I I I fun F w0 Q hret hnorm hp=>?_
 change WC _ _ _ _ _ _ _ (_::_::_::_::F)
 obtain⟨hr0,hr1⟩:=hr
 refine A4 fun _ K1=>AB (Ay (xs:=CP r) I I) I I I ?_
 rintro _ _ ⟨b3,rfl,rfl⟩
 refine AB (AZ Ce) I I I ?_
 rintro _ _ ⟨b4,rfl,rfl⟩
 refine A3 K1<|A4 fun _ K2=>A2 (A1 I CU) I<|A2 (AI (vs:=r.ix.l.flatMap (eU .u8)) I Cv (hl:=by rw [B5];omega) (hi:=Ci r)) I ?_
 refine A2 (A1 I Bq) I<|A2 (A6 I BF (v:=.int .i64 r.num) (hi:=D4 r)) I<|A2 (AL (v:=By (r.ix,r.num)) (Ah G0 I (hf:=DU _ _)) I) I ?_
 refine AB (AZ JG) I I I ?_
 rintro _ _ ⟨b5,rfl,rfl⟩
 refine AX (AV (ys:=Dt (r.ix,r.num)) I I Hk (h1:=encK.one _) (hv:=by simpa [Value.cells,By] using Aw (r.ix,r.num)) (hr:=by simp [Value.cells,By])) I I ?_
 rintro _ _ rfl
 refine A3 K2<|A7 fun _ K3=>Am CE (fun _=>2) ?_
 refine jM 0 I I I hp<|jP 1 I (A9 I) I hp<|jP 2 I (A1 I De) I hp<|jT 3 I (A6 I Fg (v:=.map (some m))) I hp AQ<|jT 4 I (AI (vs:=Dt (r.ix,r.num)) I Ff (hl:=by rw [Aw];omega) (hi:=by rw [List.drop_zero];exact List.take_of_length_le (Nat.le_of_eq (Aw (r.ix,r.num))))) I hp AQ ?_
 refine jT 5 I (AL (v:=.tuple #[.pointer none,.bool false]) (DT G9 I I FZ Ro) (by rw [IQ,hf];rfl)) I hp AQ ?_
 refine jM 6 I I I hp<|jP 7 I (BE I) I hp<|jP 8 I (BN I) I hp<|jP 9 I (Ag I) I hp<|jP 10 I (Ag I) I hp<|jD<|A5 K3<|A7 fun _ K4=>A4 fun _ K5=>wM I I<|A2 (Au I) I<|A3 K5<|Ad I<|A7 fun _ K6=>A7 fun _ K7=>?_
 refine Am CE (fun _=>2) ?_
 refine jP 0 I (A1 I CG) I hp<|jT 1 I (A6 I Bg (v:=r.b.v) (hi:=G5 r)) I hp AQ<|jP 2 I (Al I I BQ (hA:=hB)) I hp ?_
 refine jM 3 I I I hp<|jP 4 I (A9 I) I hp<|jP 5 I (A1 I Jh) I hp<|jT 6 I (A6 I BF) I hp AQ ?_
 refine jM 7 I I I hp<|jP 8 I (A9 I) I hp<|jP 9 I (A1 I Df) I hp<|jT 10 I (A6 I BF) I hp AQ ?_
 refine jP 11 I (GY I I (JV I (by omega) (by omega))) I hp ?_
 refine jP 12 I (DI I I) I hp ?_
 refine jD<|A5 K7<|AH I (fun hc1=>?_) (fun hc1=>?_)
 ·try simp only [dz] at hc1
  omega
 try simp only [dz] at hc1
 refine AA<|A5 K6<|A7 fun _ K8=>BC CE [cl b 90 [.bool true,.int .i64 room,.int .i64 tick,.int .i64 (((Ap L):Nat):Int),.map (some m)],cl b5 94 (Dt (r.ix,r.num)),cl b3 47 (CP r),Y] (fun i=>([2,2,2,2,2,2,2,1,1,2,2,2,2,2,2,1,2,2,1,1]:List Nat).getD i 0) ?_
 refine jM 0 I I I hp<|jP 1 I (A9 I) I hp<|jP 2 I (A1 I De) I hp<|jT 3 I (A6 I Fg (v:=.map (some m))) I hp AQ<|jT 4 I (AI (vs:=Dt (r.ix,r.num)) I Ff (hl:=by rw [Aw];omega) (hi:=by rw [List.drop_zero];exact List.take_of_length_le (Nat.le_of_eq (Aw (r.ix,r.num))))) I hp AQ ?_
 refine jP 5 I (A1 I CG) I hp<|jT 6 I (A6 I Bg (v:=r.b.v) (hi:=G5 r)) I hp AQ<|jP 9 I (A1 I BS) I hp<|jP 10 I (A1 I Cf) I hp<|jT 11 I (A6 I BX (v:=.int .u32 ((r.who.toNat:Nat):Int)) (hi:=Fu r)) I hp AQ<|jP 12 I (A1 I BS) I hp<|jP 13 I (A1 I Bm) I hp<|jT 14 I (A6 I BF (v:=.int .i64 r.un) (hi:=EJ r)) I hp AQ<|Gp (rs:= [7,8]) (by kernel_rfl) I ?_
 refine Dc ?_ (Dc ?_ (by intro _ h;cases h))
 ·skip
  refine B7 I (AE NL I (hs:=Ef (X:=Y) (l:=r.b.l) (hS:=hB))) I I I I ?_
  rintro _ _ ⟨⟨a47,cap47⟩,rfl,hA⟩
  simp only [ca] at hA
  subst hA
  refine⟨(fun _=>AQ),?_⟩
  refine jO 8<|B7 I (FY Dn DY) I I I I ?_
  rintro _ _ ⟨m48,rfl,rfl⟩
  refine⟨(fun _=>AQ),?_⟩
  refine jO 15<|Cg I (Ep (vf:=DY) r.un IT I I I EW) I I I ?_
  rintro _ _ rfl
  refine⟨(fun _=>AQ),?_⟩
  refine jM 16 I I I hp<|jP 17 I (Ah JZ I) I hp<|jO 18<|B7 I (Ay (xs:= [sl a47 r.b.l.length cap47,.map (some m48)]) I I) I I I I ?_
  rintro _ _ ⟨p57,rfl,rfl⟩
  refine⟨(fun _=>AQ),?_⟩
  refine jO 19<|Cg I (F5 (vf:=Cc) p57 G9 I I I FZ) I I I ?_
  rintro _ _ rfl
  refine⟨(fun _=>AQ),?_⟩
  refine jD<|A5 K8<|A7 fun _ K9=>Am CE (jz [10] 11) ?_
  refine jM 0 I I I hp<|jP 1 I (A9 I) I hp<|jP 2 I (A1 I Df) I hp<|jT 3 I (A6 I BF) I hp AQ ?_
  refine jP 4 I (A1 I CG) I hp<|jT 5 I (A6 I Bg (v:=r.b.v) (hi:=G5 r)) I hp AQ<|jP 6 I (Al I I BQ (hA:=hB)) I hp ?_
  refine jP 7 I (AN I I) I hp<|jP 8 I (A9 I) I hp<|jP 9 I (A1 I Df) I hp<|jO 10<|EN I (Ar I I Fw) I ?_
  rintro _ _ rfl
  refine jD<|A5 K9<|A4 fun _ K10=>A2 (Ah Bp I) I<|AX (AV (ys:= [.int .u8 2,.slice none 0 0,.slice none 0 0]) I I Ba (h1:=by simp [BD,Value.cells,Value.oneCell',sl]) (hr:=I)) I I ?_
  rintro _ _ rfl
  refine A3 K10<|AK<|HJ (Bs m By Cc (EQ (r.ix,r.num) p57 (L.map En.kp))) (Bs m By Cc ((Gy (⟨(⟨r.ix,r.num,r.b.l,[(r.who,r.un)]⟩:Kp),p57,a47,cap47,m48⟩:En) L).map En.kp)) (EH (Ox hf)) ?_
  refine HJ (Bs m48 Dn DY (EQ r.who r.un [])) (Bs m48 Dn DY [(r.who,r.un)]) (EH (.refl _)) ?_
  refine Nc 102 5 r.ix r.num r.b.l [(r.who,r.un)] p57 a47 cap47 m48 L ?_
  refine HJ (star (Cb 102 5) ((⟨(⟨r.ix,r.num,r.b.l,[(r.who,r.un)]⟩:Kp),p57,a47,cap47,m48⟩:En)::L)) (star (Cb 102 5) (Gy (⟨(⟨r.ix,r.num,r.b.l,[(r.who,r.un)]⟩:Kp),p57,a47,cap47,m48⟩:En) L)) (Fy (FB _ _)) ?_
  rw [show Ap L+r.b.l.length=Ap (Gy (⟨(⟨r.ix,r.num,r.b.l,[(r.who,r.un)]⟩:Kp),p57,a47,cap47,m48⟩:En) L) from by rw [<-Gg (FB (⟨(⟨r.ix,r.num,r.b.l,[(r.who,r.un)]⟩:Kp),p57,a47,cap47,m48⟩:En) L),CZ];exact Nat.add_comm _ _]
  exact hret.go (⟨(⟨r.ix,r.num,r.b.l,[(r.who,r.un)]⟩:Kp),p57,a47,cap47,m48⟩:En) (Fl rfl rfl Bn)
 skip
 refine B7 I (FY Dn DY) I I I I ?_
 rintro _ _ ⟨m48,rfl,rfl⟩
 refine⟨(fun _=>AQ),?_⟩
 refine Gp (rs:= [7,15]) (by kernel_rfl) I ?_
 refine Dc ?_ (Dc ?_ (by intro _ h;cases h))
 ·skip
  refine B7 I (AE NL I (hs:=Ef (X:=Y) (l:=r.b.l) (hS:=hB))) I I I I ?_
  rintro _ _ ⟨⟨a47,cap47⟩,rfl,hA⟩
  simp only [ca] at hA
  subst hA
  refine⟨(fun _=>AQ),?_⟩
  refine jO 15<|Cg I (Ep (vf:=DY) r.un IT I I I EW) I I I ?_
  rintro _ _ rfl
  refine⟨(fun _=>AQ),?_⟩
  refine jM 16 I I I hp<|jP 17 I (Ah JZ I) I hp<|jO 18<|B7 I (Ay (xs:= [sl a47 r.b.l.length cap47,.map (some m48)]) I I) I I I I ?_
  rintro _ _ ⟨p57,rfl,rfl⟩
  refine⟨(fun _=>AQ),?_⟩
  refine jO 19<|Cg I (F5 (vf:=Cc) p57 G9 I I I FZ) I I I ?_
  rintro _ _ rfl
  refine⟨(fun _=>AQ),?_⟩
  refine jD<|A5 K8<|A7 fun _ K11=>Am CE (jz [10] 11) ?_
  refine jM 0 I I I hp<|jP 1 I (A9 I) I hp<|jP 2 I (A1 I Df) I hp<|jT 3 I (A6 I BF) I hp AQ ?_
  refine jP 4 I (A1 I CG) I hp<|jT 5 I (A6 I Bg (v:=r.b.v) (hi:=G5 r)) I hp AQ<|jP 6 I (Al I I BQ (hA:=hB)) I hp ?_
  refine jP 7 I (AN I I) I hp<|jP 8 I (A9 I) I hp<|jP 9 I (A1 I Df) I hp<|jO 10<|EN I (Ar I I Fw) I ?_
  rintro _ _ rfl
  refine jD<|A5 K11<|A4 fun _ K12=>A2 (Ah Bp I) I<|AX (AV (ys:= [.int .u8 2,.slice none 0 0,.slice none 0 0]) I I Ba (h1:=by simp [BD,Value.cells,Value.oneCell',sl]) (hr:=I)) I I ?_
  rintro _ _ rfl
  refine A3 K12<|AK<|HJ (Bs m By Cc (EQ (r.ix,r.num) p57 (L.map En.kp))) (Bs m By Cc ((Gy (⟨(⟨r.ix,r.num,r.b.l,[(r.who,r.un)]⟩:Kp),p57,a47,cap47,m48⟩:En) L).map En.kp)) (EH (Ox hf)) ?_
  refine HJ (Bs m48 Dn DY (EQ r.who r.un [])) (Bs m48 Dn DY [(r.who,r.un)]) (EH (.refl _)) ?_
  refine Nc 102 5 r.ix r.num r.b.l [(r.who,r.un)] p57 a47 cap47 m48 L ?_
  refine HJ (star (Cb 102 5) ((⟨(⟨r.ix,r.num,r.b.l,[(r.who,r.un)]⟩:Kp),p57,a47,cap47,m48⟩:En)::L)) (star (Cb 102 5) (Gy (⟨(⟨r.ix,r.num,r.b.l,[(r.who,r.un)]⟩:Kp),p57,a47,cap47,m48⟩:En) L)) (Fy (FB _ _)) ?_
  rw [show Ap L+r.b.l.length=Ap (Gy (⟨(⟨r.ix,r.num,r.b.l,[(r.who,r.un)]⟩:Kp),p57,a47,cap47,m48⟩:En) L) from by rw [<-Gg (FB (⟨(⟨r.ix,r.num,r.b.l,[(r.who,r.un)]⟩:Kp),p57,a47,cap47,m48⟩:En) L),CZ];exact Nat.add_comm _ _]
  exact hret.go (⟨(⟨r.ix,r.num,r.b.l,[(r.who,r.un)]⟩:Kp),p57,a47,cap47,m48⟩:En) (Fl rfl rfl Bn)
 skip
 refine Cg I (Ep (vf:=DY) r.un IT I I I EW) I I I ?_
 rintro _ _ rfl
 refine⟨(fun _=>AQ),?_⟩
 refine jM 16 I I I hp<|jO 7<|B7 I (AE NL I (hs:=Ef (X:=Y) (l:=r.b.l) (hS:=hB))) I I I I ?_
 rintro _ _ ⟨⟨a47,cap47⟩,rfl,hA⟩
 simp only [ca] at hA
 subst hA
 refine⟨(fun _=>AQ),?_⟩
 refine jP 17 I (Ah JZ I) I hp<|jO 18<|B7 I (Ay (xs:= [sl a47 r.b.l.length cap47,.map (some m48)]) I I) I I I I ?_
 rintro _ _ ⟨p57,rfl,rfl⟩
 refine⟨(fun _=>AQ),?_⟩
 refine jO 19<|Cg I (F5 (vf:=Cc) p57 G9 I I I FZ) I I I ?_
 rintro _ _ rfl
 refine⟨(fun _=>AQ),?_⟩
 refine jD<|A5 K8<|A7 fun _ K13=>Am CE (jz [10] 11) ?_
 refine jM 0 I I I hp<|jP 1 I (A9 I) I hp<|jP 2 I (A1 I Df) I hp<|jT 3 I (A6 I BF) I hp AQ ?_
 refine jP 4 I (A1 I CG) I hp<|jT 5 I (A6 I Bg (v:=r.b.v) (hi:=G5 r)) I hp AQ<|jP 6 I (Al I I BQ (hA:=hB)) I hp ?_
 refine jP 7 I (AN I I) I hp<|jP 8 I (A9 I) I hp<|jP 9 I (A1 I Df) I hp<|jO 10<|EN I (Ar I I Fw) I ?_
 rintro _ _ rfl
 refine jD<|A5 K13<|A4 fun _ K14=>A2 (Ah Bp I) I<|AX (AV (ys:= [.int .u8 2,.slice none 0 0,.slice none 0 0]) I I Ba (h1:=by simp [BD,Value.cells,Value.oneCell',sl]) (hr:=I)) I I ?_
 rintro _ _ rfl
 refine A3 K14<|AK<|HJ (Bs m By Cc (EQ (r.ix,r.num) p57 (L.map En.kp))) (Bs m By Cc ((Gy (⟨(⟨r.ix,r.num,r.b.l,[(r.who,r.un)]⟩:Kp),p57,a47,cap47,m48⟩:En) L).map En.kp)) (EH (Ox hf)) ?_
 refine HJ (Bs m48 Dn DY (EQ r.who r.un [])) (Bs m48 Dn DY [(r.who,r.un)]) (EH (.refl _)) ?_
 refine Nc 102 5 r.ix r.num r.b.l [(r.who,r.un)] p57 a47 cap47 m48 L ?_
 refine HJ (star (Cb 102 5) ((⟨(⟨r.ix,r.num,r.b.l,[(r.who,r.un)]⟩:Kp),p57,a47,cap47,m48⟩:En)::L)) (star (Cb 102 5) (Gy (⟨(⟨r.ix,r.num,r.b.l,[(r.who,r.un)]⟩:Kp),p57,a47,cap47,m48⟩:En) L)) (Fy (FB _ _)) ?_
 rw [show Ap L+r.b.l.length=Ap (Gy (⟨(⟨r.ix,r.num,r.b.l,[(r.who,r.un)]⟩:Kp),p57,a47,cap47,m48⟩:En) L) from by rw [<-Gg (FB (⟨(⟨r.ix,r.num,r.b.l,[(r.who,r.un)]⟩:Kp),p57,a47,cap47,m48⟩:En) L),CZ];exact Nat.add_comm _ _]
 exact hret.go (⟨(⟨r.ix,r.num,r.b.l,[(r.who,r.un)]⟩:Kp),p57,a47,cap47,m48⟩:En) (Fl rfl rfl Bn)
end Go.Proofs.YtoakfknnaiapiaaGreat
/-
 A server's share shut with other leases. (Conditions:none;generic over the program.)
-/
set_option maxRecDepth 20000
namespace Go.SvM
open Go.SL Go.ShM Go.RowKit
section
variable {P : Program} {m : Md} {ops : Array Oper} {Q : Exit → Act → World → Prop} {w0 : World} {n : Nat} {rest : List Oper} {L : List (Nat × Value)} {A0 R : List Ao} {c : Code}
theorem Nb{K:Act ->World ->Prop}(tK tU:TypeId)(A:List En)(x:En)(ls':List Ls)(B:List En)(k:Ps m K w0 n L (star (Cb tK tU) (A++x.put (x.e.with ls')::B)::R))(hG:Gv A0 [cl x.p tK [sl x.a x.e.b.length x.cap,.map (some x.m)],Aa x.a x.cap 1 tU (eU .u8 (w:=8)) x.e.b,Bs x.m Dn DY ls',star (Cb tK tU) (A++B)] R:=by repeat (first|with_reducible exact Gv.nil|(with_reducible apply Gv.cons;· (repeat (first|with_reducible exact Ext.here|with_reducible apply Ext.there))))):Ps m K w0 n L A0:=
 I3 (fun _ hs=>Mb (e':=x.e.with ls') rfl (AS hG hs)) k
theorem NU(tK tU:TypeId)(A:List En)(x:En)(ls':List Ls)(B:List En)(k:WL P m ops Q w0 n rest L (star (Cb tK tU) (A++x.put (x.e.with ls')::B)::R))(hG:Gv A0 [cl x.p tK [sl x.a x.e.b.length x.cap,.map (some x.m)],Aa x.a x.cap 1 tU (eU .u8 (w:=8)) x.e.b,Bs x.m Dn DY ls',star (Cb tK tU) (A++B)] R:=by repeat (first|with_reducible exact Gv.nil|(with_reducible apply Gv.cons;· (repeat (first|with_reducible exact Ext.here|with_reducible apply Ext.there))))):WL P m ops Q w0 n rest L A0:=
 ER (fun _ hs=>Mb (e':=x.e.with ls') rfl (AS hG hs)) k
end
end Go.SvM
namespace Go.Proofs.YtoakfknnaiapiaaGreat
open Go.RowKit Go.SL Go.ShM Go.SvM
set_option maxHeartbeats 1000000
set_option maxRecDepth 20000
set_option linter.all false
theorem dq:DF Tryz.prog 87=true:=by kernel_rfl
theorem aR:DF Tryz.prog 88=true:=by kernel_rfl
theorem ud5:Tryz.prog.underlying 5=some (.int .u8):=by kernel_rfl
theorem ud9:Tryz.prog.underlying 9=some (.string):=by kernel_rfl
theorem Z9{l l':List B8} :((Q5 l).toList==(Q5 l').toList)=decide (l=l'):=by
 rw [Bool.eq_iff_iff,decide_eq_true_eq]
 refine⟨fun e=>?_,fun e=>by rw [e];exact beq_self_eq_true _⟩
 have h:=congrArg ef (WA e)
 rw [RR,RR] at h
 exact h

theorem NG{X:Ao}{v v':Value}{l l':List B8}{ao ao':Option Addr}{cap cap':Nat}(hS:Sv [X] v 1 (eU .u8 (w:=8)) l ao cap:=by assumption)(hS':Sv [X] v' 1 (eU .u8 (w:=8)) l' ao' cap':=by assumption):Ct Tryz.prog 87 [v,v'] [X] (fun _:Unit=>.bool (decide (l=l'))) (fun _=> [X]):=by
 refine AY (n:=10) Tryz.func87 I I I fun F w0 Q hret hnorm hp=>?_
 change WC _ _ _ _ _ _ _ (_::F)
 refine A4 fun _ K1=>wA I I<|A3 K1<|A4 fun _ K2=>wM I I<|A2 (OX I BQ ud9 ud5 (hA:=hS)) I ?_
 refine wM I I<|A2 (OX I BQ ud9 ud5 (hA:=hS')) I ?_
 refine A2 (Yi I I) I ?_
 refine wA I I<|A3 K2<|AK ?_
 exact hret.goE () (BR rfl rfl) (by rw [Z9])

theorem Q6{b m:Nat}{room tick:Int}{A B:List En}{x:En}{r:Rq}{Y:Ao}(hf:DV (r.ix,r.num) (A++x::B)=some x)(hB:Sv [Y] r.b.v 1 (eU .u8 (w:=8)) r.b.l r.b.ao r.b.cap)(hne:x.e.b≠r.b.l):Ct Tryz.prog 69 [.pointer (some ⟨b,0,none⟩),.agg (CP r).toArray] [cl b 90 [.bool true,.int .i64 room,.int .i64 tick,.int .i64 (((Ap (A++x::B)):Nat):Int),.map (some m)],Bs m By Cc ((A++x::B).map En.kp),star (Cb 102 5) (A++x::B),Y] (fun _:Unit=>.agg [.int .u8 4,.slice none 0 0,.slice none 0 0].toArray) (fun _=> [cl b 90 [.bool true,.int .i64 room,.int .i64 tick,.int .i64 (((Ap (A++x::B)):Nat):Int),.map (some m)],Bs m By Cc ((A++x::B).map En.kp),star (Cb 102 5) (A++x::B),Y]):=by
 refine AY (n:=107) Tryz.func69 I I I fun F w0 Q hret hnorm hp=>?_
 change WC _ _ _ _ _ _ _ (_::_::_::_::F)
 refine ED 102 5 A x B ?_
 refine Bu (fun w h=>B1 (a:=x.a) (cap:=x.cap) (e:=1) (T:=5) (f:=(eU .u8 (w:=8))) (l:=x.e.b) Bf h) (fun hxf=>?_)
 have hxS:Sv [Aa x.a x.cap 1 5 (eU .u8 (w:=8)) x.e.b] (sl x.a x.e.b.length x.cap) 1 (eU .u8 (w:=8)) x.e.b (x.a.map fun g=>⟨g,0,none⟩) x.cap:=BM (T:=5) (Em .u8 (w:=8)) hxf.1 hxf.2
 refine A4 fun _ K1=>AB (Ay (xs:=CP r) I I) I I I ?_
 rintro _ _ ⟨b3,rfl,rfl⟩
 refine AB (AZ Ce) I I I ?_
 rintro _ _ ⟨b4,rfl,rfl⟩
 refine A3 K1<|A4 fun _ K2=>A2 (A1 I CU) I<|A2 (AI (vs:=r.ix.l.flatMap (eU .u8)) I Cv (hl:=by rw [B5];omega) (hi:=Ci r)) I ?_
 refine A2 (A1 I Bq) I<|A2 (A6 I BF (v:=.int .i64 r.num) (hi:=D4 r)) I<|A2 (AL (v:=By (r.ix,r.num)) (Ah G0 I (hf:=DU _ _)) I) I ?_
 refine AB (AZ JG) I I I ?_
 rintro _ _ ⟨b5,rfl,rfl⟩
 refine AX (AV (ys:=Dt (r.ix,r.num)) I I Hk (h1:=encK.one _) (hv:=by simpa [Value.cells,By] using Aw (r.ix,r.num)) (hr:=by simp [Value.cells,By])) I I ?_
 rintro _ _ rfl
 refine A3 K2<|A7 fun _ K3=>Am CE (fun _=>2) ?_
 refine jM 0 I I I hp<|jP 1 I (A9 I) I hp<|jP 2 I (A1 I De) I hp<|jT 3 I (A6 I Fg (v:=.map (some m))) I hp AQ<|jT 4 I (AI (vs:=Dt (r.ix,r.num)) I Ff (hl:=by rw [Aw];omega) (hi:=by rw [List.drop_zero];exact List.take_of_length_le (Nat.le_of_eq (Aw (r.ix,r.num))))) I hp AQ ?_
 refine jT 5 I (AL (v:=.tuple #[.pointer (some ⟨x.p,0,none⟩),.bool true]) (DT G9 I I FZ Ro) (by rw [IQ,hf];rfl)) I hp AQ ?_
 refine jM 6 I I I hp<|jP 7 I (BE I) I hp<|jP 8 I (BN I) I hp<|jP 9 I (Ag I) I hp<|jP 10 I (Ag I) I hp<|jD<|A5 K3<|A7 fun _ K4=>A4 fun _ K5=>wM I I<|A2 (Au I) I<|A3 K5<|AM I<|AA<|A5 K4 ?_
 refine A7 fun _ K6=>Am CE (fun _=>2) ?_
 refine jM 0 I I I hp<|jP 1 I (A9 I) I hp<|jP 2 I (A1 I E0) I hp<|jT 3 I (A6 I Fb (v:=.map (some x.m))) I hp AQ<|jP 4 I (A1 I BS) I hp<|jP 5 I (A1 I Cf) I hp<|jT 6 I (A6 I BX (v:=.int .u32 ((r.who.toNat:Nat):Int)) (hi:=Fu r)) I hp AQ<|jT 7 I (AL (v:=.tuple #[((E8 r.who x.e.ls).map DY).getD (.int .i64 0),.bool (Bi r.who x.e.ls)]) (DT IT I I EW cQ) (by rw [KP])) I hp AQ ?_
 refine jM 8 I I I hp<|jP 9 I (BE I) I hp<|jP 10 I (BN I) I hp<|jP 11 I (Ag I) I hp<|jP 12 I (Ag I) I hp<|jD<|A5 K6<|A7 fun _ K7=>AG<|A7 fun _ K8=>Am CE (fun i=>([2,2,2,2,2,2,1,2,2]:List Nat).getD i 0) ?_
 refine jM 0 I I I hp<|jP 1 I (A9 I) I hp<|jP 2 I (A1 I El) I hp<|jT 3 I (A6 I Bg (v:=sl x.a x.e.b.length x.cap)) I hp AQ<|jP 4 I (A1 I CG) I hp<|jT 5 I (A6 I Bg (v:=r.b.v) (hi:=G5 r)) I hp AQ<|jO 6<|B7 I (AE dq I (hs:=Ct.un0 (Xs:= [Aa x.a x.cap 1 5 (eU .u8 (w:=8)) x.e.b,Y]) (NG (X:=F7 [Aa x.a x.cap 1 5 (eU .u8 (w:=8)) x.e.b,Y]) (l:=x.e.b) (l':=r.b.l) (hS:=hxS.pk Bf) (hS':=hB.pk Bf)))) I I I I ?_
 rintro _ _ ⟨⟨⟩,rfl,hA⟩
 simp only [ca] at hA
 subst hA
 refine⟨(fun _=>AQ),?_⟩
 refine jP 7 I (Au I) I hp<|jP 8 I (Ag I) I hp<|jD<|A5 K8<|AH I (fun hc2=>?_) (fun hc2=>?_)
 ·try simp only [dz] at hc2
  refine A4 fun _ K9=>A2 (Ah Bp I) I<|AX (AV (ys:= [.int .u8 4,.slice none 0 0,.slice none 0 0]) I I Ba (h1:=by simp [BD,Value.cells,Value.oneCell',sl]) (hr:=I)) I I ?_
  rintro _ _ rfl
  refine A3 K9<|AK<|Fp 102 5 A x B ?_
  exact hret.go () (Fl rfl rfl Bn)
 try simp only [dz] at hc2
 exact absurd hc2 hne

theorem S1{b m:Nat}{room tick:Int}{A B:List En}{x:En}{r:Rq}{Y:Ao}(hf:DV (r.ix,r.num) (A++x::B)=some x)(hB:Sv [Y] r.b.v 1 (eU .u8 (w:=8)) r.b.l r.b.ao r.b.cap)(he:x.e.b=r.b.l)(hno:(Bi r.who x.e.ls)=false)(h64:64<=x.e.ls.length):Ct Tryz.prog 69 [.pointer (some ⟨b,0,none⟩),.agg (CP r).toArray] [cl b 90 [.bool true,.int .i64 room,.int .i64 tick,.int .i64 (((Ap (A++x::B)):Nat):Int),.map (some m)],Bs m By Cc ((A++x::B).map En.kp),star (Cb 102 5) (A++x::B),Y] (fun _:Unit=>.agg [.int .u8 3,.slice none 0 0,.slice none 0 0].toArray) (fun _=> [cl b 90 [.bool true,.int .i64 room,.int .i64 tick,.int .i64 (((Ap (A++x::B)):Nat):Int),.map (some m)],Bs m By Cc ((A++x::B).map En.kp),star (Cb 102 5) (A++x::B),Y]):=by
 refine AY (n:=107) Tryz.func69 I I I fun F w0 Q hret hnorm hp=>?_
 change WC _ _ _ _ _ _ _ (_::_::_::_::F)
 refine ED 102 5 A x B ?_
 refine Bu (fun w h=>B1 (a:=x.a) (cap:=x.cap) (e:=1) (T:=5) (f:=(eU .u8 (w:=8))) (l:=x.e.b) Bf h) (fun hxf=>?_)
 have hxS:Sv [Aa x.a x.cap 1 5 (eU .u8 (w:=8)) x.e.b] (sl x.a x.e.b.length x.cap) 1 (eU .u8 (w:=8)) x.e.b (x.a.map fun g=>⟨g,0,none⟩) x.cap:=BM (T:=5) (Em .u8 (w:=8)) hxf.1 hxf.2
 refine A4 fun _ K1=>AB (Ay (xs:=CP r) I I) I I I ?_
 rintro _ _ ⟨b3,rfl,rfl⟩
 refine AB (AZ Ce) I I I ?_
 rintro _ _ ⟨b4,rfl,rfl⟩
 refine A3 K1<|A4 fun _ K2=>A2 (A1 I CU) I<|A2 (AI (vs:=r.ix.l.flatMap (eU .u8)) I Cv (hl:=by rw [B5];omega) (hi:=Ci r)) I ?_
 refine A2 (A1 I Bq) I<|A2 (A6 I BF (v:=.int .i64 r.num) (hi:=D4 r)) I<|A2 (AL (v:=By (r.ix,r.num)) (Ah G0 I (hf:=DU _ _)) I) I ?_
 refine AB (AZ JG) I I I ?_
 rintro _ _ ⟨b5,rfl,rfl⟩
 refine AX (AV (ys:=Dt (r.ix,r.num)) I I Hk (h1:=encK.one _) (hv:=by simpa [Value.cells,By] using Aw (r.ix,r.num)) (hr:=by simp [Value.cells,By])) I I ?_
 rintro _ _ rfl
 refine A3 K2<|A7 fun _ K3=>Am CE (fun _=>2) ?_
 refine jM 0 I I I hp<|jP 1 I (A9 I) I hp<|jP 2 I (A1 I De) I hp<|jT 3 I (A6 I Fg (v:=.map (some m))) I hp AQ<|jT 4 I (AI (vs:=Dt (r.ix,r.num)) I Ff (hl:=by rw [Aw];omega) (hi:=by rw [List.drop_zero];exact List.take_of_length_le (Nat.le_of_eq (Aw (r.ix,r.num))))) I hp AQ ?_
 refine jT 5 I (AL (v:=.tuple #[.pointer (some ⟨x.p,0,none⟩),.bool true]) (DT G9 I I FZ Ro) (by rw [IQ,hf];rfl)) I hp AQ ?_
 refine jM 6 I I I hp<|jP 7 I (BE I) I hp<|jP 8 I (BN I) I hp<|jP 9 I (Ag I) I hp<|jP 10 I (Ag I) I hp<|jD<|A5 K3<|A7 fun _ K4=>A4 fun _ K5=>wM I I<|A2 (Au I) I<|A3 K5<|AM I<|AA<|A5 K4 ?_
 refine A7 fun _ K6=>Am CE (fun _=>2) ?_
 refine jM 0 I I I hp<|jP 1 I (A9 I) I hp<|jP 2 I (A1 I E0) I hp<|jT 3 I (A6 I Fb (v:=.map (some x.m))) I hp AQ<|jP 4 I (A1 I BS) I hp<|jP 5 I (A1 I Cf) I hp<|jT 6 I (A6 I BX (v:=.int .u32 ((r.who.toNat:Nat):Int)) (hi:=Fu r)) I hp AQ<|jT 7 I (AL (v:=.tuple #[((E8 r.who x.e.ls).map DY).getD (.int .i64 0),.bool (Bi r.who x.e.ls)]) (DT IT I I EW cQ) (by rw [KP])) I hp AQ ?_
 refine jM 8 I I I hp<|jP 9 I (BE I) I hp<|jP 10 I (BN I) I hp<|jP 11 I (Ag I) I hp<|jP 12 I (Ag I) I hp<|jD<|A5 K6<|A7 fun _ K7=>AG<|A7 fun _ K8=>Am CE (fun i=>([2,2,2,2,2,2,1,2,2]:List Nat).getD i 0) ?_
 refine jM 0 I I I hp<|jP 1 I (A9 I) I hp<|jP 2 I (A1 I El) I hp<|jT 3 I (A6 I Bg (v:=sl x.a x.e.b.length x.cap)) I hp AQ<|jP 4 I (A1 I CG) I hp<|jT 5 I (A6 I Bg (v:=r.b.v) (hi:=G5 r)) I hp AQ<|jO 6<|B7 I (AE dq I (hs:=Ct.un0 (Xs:= [Aa x.a x.cap 1 5 (eU .u8 (w:=8)) x.e.b,Y]) (NG (X:=F7 [Aa x.a x.cap 1 5 (eU .u8 (w:=8)) x.e.b,Y]) (l:=x.e.b) (l':=r.b.l) (hS:=hxS.pk Bf) (hS':=hB.pk Bf)))) I I I I ?_
 rintro _ _ ⟨⟨⟩,rfl,hA⟩
 simp only [ca] at hA
 subst hA
 refine⟨(fun _=>AQ),?_⟩
 refine jP 7 I (Au I) I hp<|jP 8 I (Ag I) I hp<|jD<|A5 K8<|AH I (fun hc2=>?_) (fun hc2=>?_)
 ·try simp only [dz] at hc2
  exact absurd he hc2
 try simp only [dz] at hc2
 refine A4 fun _ K9=>wM I I<|A2 (Au I) I<|wM I I<|Ae 93 I (fun hg10=>?_) (fun hg10=>?_)
 ·try simp only [dz] at hg10
  refine wM I I<|A2 (A9 I) I<|A2 (A1 I E0) I<|A2 (A6 I Fb (v:=.map (some x.m))) I<|A2 (MG I I EW) I ?_
  refine A2 (Bl (j:=64) I I) I ?_
  refine A2 (AC I I) I<|wA I I<|A3 K9<|AH I (fun hc3=>?_) (fun hc3=>?_)
  ·try simp only [dz] at hc3
   refine A4 fun _ K11=>A2 (Ah Bp I) I<|AX (AV (ys:= [.int .u8 3,.slice none 0 0,.slice none 0 0]) I I Ba (h1:=by simp [BD,Value.cells,Value.oneCell',sl]) (hr:=I)) I I ?_
   rintro _ _ rfl
   refine A3 K11<|AK<|Fp 102 5 A x B ?_
   exact hret.go () (Fl rfl rfl Bn)
  try simp only [dz] at hc3
  first|omega|(exact absurd hno (by simp_all))
 try simp only [dz] at hg10
 refine wK I<|wK I<|wK I<|wK I<|wK I<|wK I<|A2 (A8 I I) I<|wA I I<|A3 K9<|AM I ?_
 first|omega|(exact absurd hno (by simp_all))

theorem S2{b m:Nat}{room tick:Int}{A B:List En}{x:En}{r:Rq}{Y:Ao}(hf:DV (r.ix,r.num) (A++x::B)=some x)(hB:Sv [Y] r.b.v 1 (eU .u8 (w:=8)) r.b.l r.b.ao r.b.cap)(he:x.e.b=r.b.l)(hok:(Bi r.who x.e.ls)=true\/x.e.ls.length<64)(hls:SrtW x.e.ls)(hun:0<=r.un):Ct Tryz.prog 69 [.pointer (some ⟨b,0,none⟩),.agg (CP r).toArray] [cl b 90 [.bool true,.int .i64 room,.int .i64 tick,.int .i64 (((Ap (A++x::B)):Nat):Int),.map (some m)],Bs m By Cc ((A++x::B).map En.kp),star (Cb 102 5) (A++x::B),Y] (fun _:Unit=>.agg [.int .u8 2,.slice none 0 0,.slice none 0 0].toArray) (fun _=> [cl b 90 [.bool true,.int .i64 room,.int .i64 tick,.int .i64 (((Ap (A++x.put (x.e.with (Bc r.who r.un x.e.ls))::B)):Nat):Int),.map (some m)],Bs m By Cc ((A++x.put (x.e.with (Bc r.who r.un x.e.ls))::B).map En.kp),star (Cb 102 5) (A++x.put (x.e.with (Bc r.who r.un x.e.ls))::B),Y]):=by
 refine AY (n:=107) Tryz.func69 I I I fun F w0 Q hret hnorm hp=>?_
 change WC _ _ _ _ _ _ _ (_::_::_::_::F)
 refine ED 102 5 A x B ?_
 refine Bu (fun w h=>B1 (a:=x.a) (cap:=x.cap) (e:=1) (T:=5) (f:=(eU .u8 (w:=8))) (l:=x.e.b) Bf h) (fun hxf=>?_)
 have hxS:Sv [Aa x.a x.cap 1 5 (eU .u8 (w:=8)) x.e.b] (sl x.a x.e.b.length x.cap) 1 (eU .u8 (w:=8)) x.e.b (x.a.map fun g=>⟨g,0,none⟩) x.cap:=BM (T:=5) (Em .u8 (w:=8)) hxf.1 hxf.2
 refine A4 fun _ K1=>AB (Ay (xs:=CP r) I I) I I I ?_
 rintro _ _ ⟨b3,rfl,rfl⟩
 refine AB (AZ Ce) I I I ?_
 rintro _ _ ⟨b4,rfl,rfl⟩
 refine A3 K1<|A4 fun _ K2=>A2 (A1 I CU) I<|A2 (AI (vs:=r.ix.l.flatMap (eU .u8)) I Cv (hl:=by rw [B5];omega) (hi:=Ci r)) I ?_
 refine A2 (A1 I Bq) I<|A2 (A6 I BF (v:=.int .i64 r.num) (hi:=D4 r)) I<|A2 (AL (v:=By (r.ix,r.num)) (Ah G0 I (hf:=DU _ _)) I) I ?_
 refine AB (AZ JG) I I I ?_
 rintro _ _ ⟨b5,rfl,rfl⟩
 refine AX (AV (ys:=Dt (r.ix,r.num)) I I Hk (h1:=encK.one _) (hv:=by simpa [Value.cells,By] using Aw (r.ix,r.num)) (hr:=by simp [Value.cells,By])) I I ?_
 rintro _ _ rfl
 refine A3 K2<|A7 fun _ K3=>Am CE (fun _=>2) ?_
 refine jM 0 I I I hp<|jP 1 I (A9 I) I hp<|jP 2 I (A1 I De) I hp<|jT 3 I (A6 I Fg (v:=.map (some m))) I hp AQ<|jT 4 I (AI (vs:=Dt (r.ix,r.num)) I Ff (hl:=by rw [Aw];omega) (hi:=by rw [List.drop_zero];exact List.take_of_length_le (Nat.le_of_eq (Aw (r.ix,r.num))))) I hp AQ ?_
 refine jT 5 I (AL (v:=.tuple #[.pointer (some ⟨x.p,0,none⟩),.bool true]) (DT G9 I I FZ Ro) (by rw [IQ,hf];rfl)) I hp AQ ?_
 refine jM 6 I I I hp<|jP 7 I (BE I) I hp<|jP 8 I (BN I) I hp<|jP 9 I (Ag I) I hp<|jP 10 I (Ag I) I hp<|jD<|A5 K3<|A7 fun _ K4=>A4 fun _ K5=>wM I I<|A2 (Au I) I<|A3 K5<|AM I<|AA<|A5 K4 ?_
 refine A7 fun _ K6=>Am CE (fun _=>2) ?_
 refine jM 0 I I I hp<|jP 1 I (A9 I) I hp<|jP 2 I (A1 I E0) I hp<|jT 3 I (A6 I Fb (v:=.map (some x.m))) I hp AQ<|jP 4 I (A1 I BS) I hp<|jP 5 I (A1 I Cf) I hp<|jT 6 I (A6 I BX (v:=.int .u32 ((r.who.toNat:Nat):Int)) (hi:=Fu r)) I hp AQ<|jT 7 I (AL (v:=.tuple #[((E8 r.who x.e.ls).map DY).getD (.int .i64 0),.bool (Bi r.who x.e.ls)]) (DT IT I I EW cQ) (by rw [KP])) I hp AQ ?_
 refine jM 8 I I I hp<|jP 9 I (BE I) I hp<|jP 10 I (BN I) I hp<|jP 11 I (Ag I) I hp<|jP 12 I (Ag I) I hp<|jD<|A5 K6<|A7 fun _ K7=>AG<|A7 fun _ K8=>Am CE (fun i=>([2,2,2,2,2,2,1,2,2]:List Nat).getD i 0) ?_
 refine jM 0 I I I hp<|jP 1 I (A9 I) I hp<|jP 2 I (A1 I El) I hp<|jT 3 I (A6 I Bg (v:=sl x.a x.e.b.length x.cap)) I hp AQ<|jP 4 I (A1 I CG) I hp<|jT 5 I (A6 I Bg (v:=r.b.v) (hi:=G5 r)) I hp AQ<|jO 6<|B7 I (AE dq I (hs:=Ct.un0 (Xs:= [Aa x.a x.cap 1 5 (eU .u8 (w:=8)) x.e.b,Y]) (NG (X:=F7 [Aa x.a x.cap 1 5 (eU .u8 (w:=8)) x.e.b,Y]) (l:=x.e.b) (l':=r.b.l) (hS:=hxS.pk Bf) (hS':=hB.pk Bf)))) I I I I ?_
 rintro _ _ ⟨⟨⟩,rfl,hA⟩
 simp only [ca] at hA
 subst hA
 refine⟨(fun _=>AQ),?_⟩
 refine jP 7 I (Au I) I hp<|jP 8 I (Ag I) I hp<|jD<|A5 K8<|AH I (fun hc2=>?_) (fun hc2=>?_)
 ·try simp only [dz] at hc2
  exact absurd he hc2
 try simp only [dz] at hc2
 refine A4 fun _ K9=>wM I I<|A2 (Au I) I<|wM I I<|Ae 93 I (fun hg10=>?_) (fun hg10=>?_)
 ·try simp only [dz] at hg10
  refine wM I I<|A2 (A9 I) I<|A2 (A1 I E0) I<|A2 (A6 I Fb (v:=.map (some x.m))) I<|A2 (MG I I EW) I ?_
  refine A2 (Bl (j:=64) I I) I ?_
  refine A2 (AC I I) I<|wA I I<|A3 K9<|AH I (fun hc3=>?_) (fun hc3=>?_)
  ·try simp only [dz] at hc3
   rcases hok with q|q <;>simp_all <;>omega
  try simp only [dz] at hc3
  refine AA<|A5 K7<|A4 fun _ K11=>wM I I<|A2 (A1 I BS) I<|A2 (AI (vs:= [.int .u32 (r.who.toNat:Int),.int .i64 r.un]) I EE (hl:=by rw [B5];omega) (hi:=Jm r)) I ?_
  refine AB (AE aR I (hs:=P4 (p:=x.p) (mm:=x.m) (w:=r.who) (u:=r.un) (ls:=x.e.ls) hls hun)) I I I ?_
  rintro _ _ ⟨⟨⟩,rfl,hA⟩
  simp only [ca] at hA
  subst hA
  refine A3 K11<|A4 fun _ K12=>A2 (Ah Bp I) I<|AX (AV (ys:= [.int .u8 2,.slice none 0 0,.slice none 0 0]) I I Ba (h1:=by simp [BD,Value.cells,Value.oneCell',sl]) (hr:=I)) I I ?_
  rintro _ _ rfl
  refine A3 K12<|AK<|Nb 102 5 A x (Bc r.who r.un x.e.ls) B ?_
  rw [show (A++x::B).map En.kp=(A++x.put (x.e.with (Bc r.who r.un x.e.ls))::B).map En.kp from by rw [List.map_append,List.map_append];rfl,show Ap (A++x::B)=Ap (A++x.put (x.e.with (Bc r.who r.un x.e.ls))::B) from by rw [Cs,Cs,CZ,CZ];rfl]
  exact hret.go () (Fl rfl rfl Bn)
 try simp only [dz] at hg10
 refine wK I<|wK I<|wK I<|wK I<|wK I<|wK I<|A2 (A8 I I) I<|wA I I<|A3 K9<|AM I<|AA<|A5 K7<|A4 fun _ K13=>wM I I<|A2 (A1 I BS) I ?_
 refine A2 (AI (vs:= [.int .u32 (r.who.toNat:Int),.int .i64 r.un]) I EE (hl:=by rw [B5];omega) (hi:=Jm r)) I ?_
 refine AB (AE aR I (hs:=P4 (p:=x.p) (mm:=x.m) (w:=r.who) (u:=r.un) (ls:=x.e.ls) hls hun)) I I I ?_
 rintro _ _ ⟨⟨⟩,rfl,hA⟩
 simp only [ca] at hA
 subst hA
 refine A3 K13<|A4 fun _ K14=>A2 (Ah Bp I) I<|AX (AV (ys:= [.int .u8 2,.slice none 0 0,.slice none 0 0]) I I Ba (h1:=by simp [BD,Value.cells,Value.oneCell',sl]) (hr:=I)) I I ?_
 rintro _ _ rfl
 refine A3 K14<|AK<|Nb 102 5 A x (Bc r.who r.un x.e.ls) B ?_
 rw [show (A++x::B).map En.kp=(A++x.put (x.e.with (Bc r.who r.un x.e.ls))::B).map En.kp from by rw [List.map_append,List.map_append];rfl,show Ap (A++x::B)=Ap (A++x.put (x.e.with (Bc r.who r.un x.e.ls))::B) from by rw [Cs,Cs,CZ,CZ];rfl]
 exact hret.go () (Fl rfl rfl Bn)
end Go.Proofs.YtoakfknnaiapiaaGreat
/-
 A server's shares changed one by one:those under an index of which something holds. (Conditions:none;no program in sight.)
-/
set_option maxRecDepth 20000
namespace Go.SvM
open Go.SL Go.ShM Go.RowKit
def VA(g:List Ls ->List Ls)(x:En):Option En:=(DR x.e (g x.e.ls)).map x.put
def V9(g:List Ls ->List Ls)(e:Kp):Option Kp:=DR e (g e.ls)
def EU(ix:Ix)(ns:List Int)(g:List Ls ->List Ls)(i:Nat)(L:List En):List En:=L.filterMap fun x=>if x.e.ix=ix/\x.e.num∈ns.take i then VA g x else some x
def IG(ix:Ix)(p:Kp ->Bool)(g:List Ls ->List Ls)(L:List En):List En:=L.filterMap fun x=>if (decide (x.e.ix=ix) && p x.e)=true then VA g x else some x
def KZ(ix:Ix)(p:Kp ->Bool)(g:List Ls ->List Ls)(L:List Kp):List Kp:=L.filterMap fun e=>if (decide (e.ix=ix) && p e)=true then V9 g e else some e
theorem YK(ix:Ix)(p:Kp ->Bool)(g:List Ls ->List Ls)(L:List En):(IG ix p g L).map En.e=KZ ix p g (L.map En.e):=by
 unfold IG KZ
 rw [List.map_filterMap,List.filterMap_map]
 congr 1
 funext x
 simp only [Function.comp]
 split
 ·unfold VA V9
  rw [Option.map_map]
  cases DR x.e (g x.e.ls) <;>rfl
 ·rfl
theorem Ji{α β:Type}{f g:α ->Option β} : ∀ {l:List α},(∀x∈l,f x=g x) ->l.filterMap f=l.filterMap g
 | [],_=>rfl
 |x::r,h=>by rw [List.filterMap_cons,List.filterMap_cons,h x (by simp),Ji fun y hy=>h y (List.mem_cons_of_mem _ hy)]
theorem He(ix:Ix)(ns:List Int)(g:List Ls ->List Ls)(L:List En):EU ix ns g 0 L=L:=by
 unfold EU
 simp
theorem En.key_eq{x:En}{ix:Ix}{n:Int} :x.e.key=(ix,n)<->x.e.ix=ix/\x.e.num=n:=by
 unfold Kp.key
 exact Prod.mk.injEq _ _ _ _ ▸ Iff.rfl
theorem Jc{L:List En}(h:SrtK (L.map En.e)):(L.map fun x=>x.e.key).Nodup:=by
 have:=h.nd
 rw [List.map_map] at this
 exact this
theorem XL{L:List En}(h:(L.map fun x=>x.e.key).Nodup){x y:En}(hx:x∈L)(hy:y∈L)(e:x.e.key=y.e.key):x=y:=by
 induction L with
 |nil=>cases hx
 |cons z r ih=>
  rw [List.map_cons,List.nodup_cons] at h
  rcases List.mem_cons.1 hx with hx'|hx'
  ·rcases List.mem_cons.1 hy with hy'|hy'
   ·rw [hx',hy']
   ·exact absurd (List.mem_map.2 ⟨y,hy',by rw [<-hx',e]⟩:z.e.key∈r.map fun z=>z.e.key) h.1
  ·rcases List.mem_cons.1 hy with hy'|hy'
   ·exact absurd (List.mem_map.2 ⟨x,hx',by rw [<-hy',e]⟩:z.e.key∈r.map fun z=>z.e.key) h.1
   ·exact ih h.2 hx' hy'
theorem Nr{ix:Ix}{p:Kp ->Bool}{L:List En}{n:Int} :n∈B9 ix p (L.map En.e)<-> ∃x∈L,x.e.ix=ix/\p x.e=true/\x.e.num=n:=by
 unfold B9
 simp only [List.mem_map,List.mem_filter,Bool.and_eq_true,decide_eq_true_eq]
 constructor
 ·rintro⟨e,⟨⟨x,hx,rfl⟩,h1,h2⟩,h3⟩;exact⟨x,hx,h1,h2,h3⟩
 ·rintro⟨x,hx,h1,h2,h3⟩;exact⟨x.e,⟨⟨x,hx,rfl⟩,h1,h2⟩,h3⟩
theorem TO{ix:Ix}{p:Kp ->Bool}{g:List Ls ->List Ls}{L:List En}{i:Nat}(h:SrtK (L.map En.e))(hi:i=(B9 ix p (L.map En.e)).length):EU ix (B9 ix p (L.map En.e)) g i L=IG ix p g L:=by
 subst hi
 unfold EU IG
 rw [List.take_length]
 refine Ji fun x hx=>?_
 have hk:(x.e.ix=ix/\x.e.num∈B9 ix p (L.map En.e))<->(decide (x.e.ix=ix) && p x.e)=true:=by
  rw [Nr,Bool.and_eq_true,decide_eq_true_eq]
  constructor
  ·rintro⟨h1,y,hy,h2,h3,h4⟩
   have:=XL (Jc h) hx hy (by unfold Kp.key;rw [h1,h2,h4])
   subst this
   exact⟨h1,h3⟩
  ·rintro⟨h1,h2⟩;exact⟨h1,x,hx,h1,h2,rfl⟩
 by_cases q:x.e.ix=ix/\x.e.num∈B9 ix p (L.map En.e)
 ·rw [if_pos q,if_pos (hk.1 q)]
 ·rw [if_neg q,if_neg (fun z=>q (hk.2 z))]
theorem TN{ix:Ix}{ns:List Int}{g:List Ls ->List Ls}{i:Nat}{L:List En}{y:En}(h:y∈EU ix ns g i L): ∃x∈L,x.e.key=y.e.key:=by
 obtain⟨x,hx,hy⟩:=List.mem_filterMap.1 h
 refine⟨x,hx,?_⟩
 split at hy
 ·unfold VA at hy
  rw [Option.map_eq_some_iff] at hy
  obtain⟨e,he,rfl⟩:=hy
  exact(Ej he).1.symm
 ·cases hy;rfl
theorem Tl{k:Ky}{A B:List En}{x:En}(hx:x.e.key=k)(hA: ∀y∈A,y.e.key≠k):DV k (A++x::B)=some x:=by
 unfold DV
 rw [List.find?_append,List.find?_eq_none.2 (fun y hy=>by simpa using hA y hy)]
 rw [List.find?_cons_of_pos (by simpa using hx)]
 rfl
theorem Qf{ix:Ix}{p:Kp ->Bool}{g:List Ls ->List Ls}{L:List En}{i:Nat}(h:SrtK (L.map En.e))(hi:i<(B9 ix p (L.map En.e)).length):
  ∃A x B,EU ix (B9 ix p (L.map En.e)) g i L=A++x::B/\x∈L/\x.e.key=(ix,(B9 ix p (L.map En.e)).getD i 0)/\DV (ix,(B9 ix p (L.map En.e)).getD i 0) (A++x::B)=some x/\p x.e=true/\
   x.e.key ∉ A.map (fun y=>y.e.key)/\x.e.key ∉ B.map (fun y=>y.e.key)/\EU ix (B9 ix p (L.map En.e)) g (i+1) L=A++((VA g x).toList++B):=by
 have hsr:=MQ (x:=ix) (p:=p) h
 have hmem:(B9 ix p (L.map En.e)).getD i 0∈B9 ix p (L.map En.e):=by rw [List.getD_eq_getElem?_getD,List.getElem?_eq_getElem hi];exact List.getElem_mem hi
 obtain⟨x,hx,h1,h2,h3⟩:=Nr.1 hmem
 generalize hns:B9 ix p (L.map En.e)=ns at*
 generalize hn:ns.getD i 0=n at*
 have hkey:x.e.key=(ix,n):=En.key_eq.2 ⟨h1,h3⟩
 obtain⟨A0,B0,rfl⟩:=List.append_of_mem hx
 have hnd:=Jc h
 rw [List.map_append,List.map_cons] at hnd
 have hnd2:=List.nodup_cons.1 ((List.perm_middle.nodup_iff).1 hnd)
 rw [<-List.map_append] at hnd2
 have hout: ∀y∈A0++B0,y.e.key≠(ix,n):=fun y hy e=>hnd2.1 (List.mem_map.2 ⟨y,hy,e.trans hkey.symm⟩)
 have hnt:n ∉ ns.take i:=by
  intro hm
  obtain⟨j,hj,e⟩:=List.mem_iff_getElem.1 hm
  rw [List.length_take] at hj
  rw [List.getElem_take] at e
  have:=List.pairwise_iff_getElem.1 hsr j i (by omega) hi (by omega)
  rw [List.getD_eq_getElem?_getD,List.getElem?_eq_getElem hi] at hn
  simp only [Option.getD_some] at hn
  omega
 have htk:ns.take (i+1)=ns.take i++ [n]:=by
  rw [List.take_add_one,List.getElem?_eq_getElem hi]
  rw [List.getD_eq_getElem?_getD,List.getElem?_eq_getElem hi] at hn
  simp only [Option.getD_some] at hn
  rw [hn];rfl
 have hsame: ∀C:List En,(∀y∈C,y.e.key≠(ix,n)) ->EU ix ns g (i+1) C=EU ix ns g i C:=fun C hC=>by
  unfold EU
  refine Ji fun y hy=>?_
  have hk:(y.e.ix=ix/\y.e.num∈ns.take (i+1))<->(y.e.ix=ix/\y.e.num∈ns.take i):=by
   rw [htk,List.mem_append,List.mem_singleton]
   constructor
   ·rintro⟨q1,q2|q2⟩
    ·exact⟨q1,q2⟩
    ·exact absurd (En.key_eq.2 ⟨q1,q2⟩) (hC y hy)
   ·rintro⟨q1,q2⟩;exact⟨q1,.inl q2⟩
  by_cases q:y.e.ix=ix/\y.e.num∈ns.take i
  ·rw [if_pos q,if_pos (hk.2 q)]
  ·rw [if_neg q,if_neg (fun z=>q (hk.1 z))]
 have hA: ∀y∈A0,y.e.key≠(ix,n):=fun y hy=>hout y (by simp [hy])
 have hB: ∀y∈B0,y.e.key≠(ix,n):=fun y hy=>hout y (by simp [hy])
 have hAm: ∀y∈EU ix ns g i A0,y.e.key≠(ix,n):=fun y hy=>by
  obtain⟨z,hz,e⟩:=TN hy;rw [<-e];exact hA z hz
 have hBm: ∀y∈EU ix ns g i B0,y.e.key≠(ix,n):=fun y hy=>by
  obtain⟨z,hz,e⟩:=TN hy;rw [<-e];exact hB z hz
 refine⟨EU ix ns g i A0,x,EU ix ns g i B0,?_,by simp,hkey,Tl hkey hAm,h2,?_,?_,?_⟩
 ·show List.filterMap _ (A0++x::B0)=_
  rw [List.filterMap_append,List.filterMap_cons,if_neg (fun q=>hnt (h3 ▸ q.2))]
  rfl
 ·rw [hkey];intro q;obtain⟨y,hy,e⟩:=List.mem_map.1 q;exact hAm y hy e
 ·rw [hkey];intro q;obtain⟨y,hy,e⟩:=List.mem_map.1 q;exact hBm y hy e
 ·rw [<-hsame A0 hA,<-hsame B0 hB]
  show List.filterMap _ (A0++x::B0)=_
  rw [List.filterMap_append,List.filterMap_cons,if_pos ⟨h1,by rw [htk,h3];simp⟩]
  unfold EU
  cases VA g x <;>rfl
theorem Qe(ix:Ix)(ns:List Int)(g:List Ls ->List Ls)(i:Nat): ∀L:List En,Ap (EU ix ns g i L)<=Ap L
 | []=>Nat.le_refl _
 |x::r=>by
  have h:=Qe ix ns g i r
  unfold EU at*
  rw [List.filterMap_cons,CZ]
  split
  ·omega
  ·rename_i y hy
   rw [CZ]
   have:y.e.b=x.e.b:=by
    split at hy
    ·unfold VA at hy
     rw [Option.map_eq_some_iff] at hy
     obtain⟨e,he,rfl⟩:=hy
     exact(Ej he).2.1
    ·cases hy;rfl
   rw [this];omega
theorem Kg{ix:Ix}{p:Kp ->Bool}{L:List En} :(B9 ix p (L.map En.e)).length<=L.length:=by
 unfold B9
 rw [List.length_map]
 exact Nat.le_trans (List.length_filter_le _ _) (Nat.le_of_eq (List.length_map _))
theorem H6(w:Bv)(u:Int): ∀ls:List Ls,Bc w u ls≠ []
  | []=>by simp [Bc]
  |x::r=>by
   unfold Bc;split;· simp
   split <;>simp
theorem Xw{x:En}{a b:List En}{ls:List Ls} :(if ls= [] then Ap (a++x::b) -x.e.b.length else Ap (a++x::b))=Ap (a++(((DR x.e ls).map x.put).toList++b)):=by
 unfold DR
 rw [Cs,CZ,Cs,Cs]
 by_cases h:ls= []
 ·rw [if_pos h,if_pos h]
  simp only [Option.map_none,Option.toList_none]
  rw [show Ap ([]:List En)=0 from rfl];omega
 ·rw [if_neg h,if_neg h]
  simp only [Option.map_some,Option.toList_some]
  rw [CZ,show Ap ([]:List En)=0 from rfl]
  have:(x.put (x.e.with ls)).e.b=x.e.b:=rfl
  rw [this];omega
theorem aK{x:En}{a b:List En}{ls:List Ls}(ha:x.e.key ∉ a.map (fun y=>y.e.key))(hb:x.e.key ∉ b.map (fun y=>y.e.key)):(if ls= [] then CC x.e.key ((a++x::b).map En.kp) else (a++x::b).map En.kp)=(a++(((DR x.e ls).map x.put).toList++b)).map En.kp:=by
 have hk: ∀c:List En,C5 (c.map En.kp)=c.map (fun y=>y.e.key):=fun c=>by rw [Lv,List.map_map];rfl
 unfold DR
 by_cases h:ls= []
 ·rw [if_pos h,if_pos h]
  simp only [Option.map_none,Option.toList_none,List.nil_append,List.map_append,List.map_cons]
  have h1:=FW (l:=a.map En.kp) (k:=x.e.key) (by rw [hk];exact ha)
  have h2:=FW (l:=b.map En.kp) (k:=x.e.key) (by rw [hk];exact hb)
  unfold CC at*
  rw [List.filter_append,h1,List.filter_cons_of_neg (by unfold En.kp;simp),h2]
 ·rw [if_neg h,if_neg h]
  simp only [Option.map_some,Option.toList_some,List.cons_append,List.nil_append,List.map_append,List.map_cons]
  rfl
theorem dO{tK tU:TypeId}{x:En}{ls:List Ls}{A B:List En}{S:List Ao}{w:World}
  (h:sat w (cl x.p tK [sl x.a x.e.b.length x.cap,.map (some x.m)]::Aa x.a x.cap 1 tU (eU .u8 (w:=8)) x.e.b::Bs x.m Dn DY ls::star (Cb tK tU) (A++B)::S)):
  sat w (star (Cb tK tU) (A++(((DR x.e ls).map x.put).toList++B))::S):=
 Dz (by rw [<-List.append_assoc,<-List.append_assoc];exact List.Perm.append_right _ List.perm_append_comm) (Tn h)
section
variable {P : Program} {m : Md} {ops : Array Oper} {Q : Exit → Act → World → Prop} {w0 : World} {n : Nat} {rest : List Oper} {L : List (Nat × Value)} {A0 R : List Ao} {c : Code}
theorem YY(tK tU:TypeId)(A:List En)(x:En)(B:List En)(ls:List Ls)(k:WL P m ops Q w0 n rest L (star (Cb tK tU) (A++(((DR x.e ls).map x.put).toList++B))::R))(hG:Gv A0 [cl x.p tK [sl x.a x.e.b.length x.cap,.map (some x.m)],Aa x.a x.cap 1 tU (eU .u8 (w:=8)) x.e.b,Bs x.m Dn DY ls,star (Cb tK tU) (A++B)] R:=by repeat (first|with_reducible exact Gv.nil|(with_reducible apply Gv.cons;· (repeat (first|with_reducible exact Ext.here|with_reducible apply Ext.there))))):WL P m ops Q w0 n rest L A0:=
 ER (fun _ hs=>dO (AS hG hs)) k
end
end Go.SvM
namespace Go.Proofs.YtoakfknnaiapiaaGreat
open Go.RowKit Go.SL Go.ShM Go.SvM
set_option maxHeartbeats 1000000
set_option maxRecDepth 20000
set_option linter.all false
theorem fe:DF Tryz.prog 89=true:=by kernel_rfl
theorem gB{l:List Int}{i:Nat}(h:i<l.length):l[i]? =some (l.getD i 0):=by rw [List.getD_eq_getElem?_getD,List.getElem?_eq_getElem h];rfl

theorem Xo{b m u:Nat}{room tick:Int}{k:Ky}{x:En}{l:List (Ky × Nat)}{ls:List Ls}(hu:x.e.b.length<=u)(hub:u<=1099511627776):Ct Tryz.prog 54 [.pointer (some ⟨b,0,none⟩),By k,.pointer (some ⟨x.p,0,none⟩)] [cl b 90 [.bool true,.int .i64 room,.int .i64 tick,.int .i64 ((u:Nat):Int),.map (some m)],Bs m By Cc l,cl x.p 102 [sl x.a x.e.b.length x.cap,.map (some x.m)],Aa x.a x.cap 1 5 (eU .u8 (w:=8)) x.e.b,Bs x.m Dn DY ls] (fun _:Unit=>.tuple #[]) (fun _=> [cl b 90 [.bool true,.int .i64 room,.int .i64 tick,.int .i64 (((if ls= [] then u -x.e.b.length else u):Nat):Int),.map (some m)],Bs m By Cc (if ls= [] then CC k l else l),cl x.p 102 [sl x.a x.e.b.length x.cap,.map (some x.m)],Aa x.a x.cap 1 5 (eU .u8 (w:=8)) x.e.b,Bs x.m Dn DY ls]):=by
 refine AY (n:=29) Tryz.func54 I I I fun F w0 Q hret hnorm hp=>?_
 change WC _ _ _ _ _ _ _ (_::_::_::_::_::F)
 refine A4 fun _ K1=>AB (Ay (xs:=Dt k) I I) I I I ?_
 rintro _ _ ⟨b4,rfl,rfl⟩
 refine A3 K1<|A4 fun _ K2=>wM I I<|A2 (A9 I) I<|A2 (A1 I E0) I<|A2 (A6 I Fb (v:=.map (some x.m))) I<|A2 (MG I I EW) I ?_
 refine A2 (Ab (j:=0) I I) I<|A3 K2<|AH I (fun hc0=>?_) (fun hc0=>?_)
 ·try simp only [dz] at hc0
  have hls:ls= []:=List.eq_nil_of_length_eq_zero (by omega)
  rw [if_pos hls,if_pos hls] at hnorm
  refine A7 fun _ K3=>Am CE (jz [12] 13) ?_
  refine jM 0 I I I hp<|jP 1 I (A9 I) I hp<|jP 2 I (A1 I Df) I hp<|jT 3 I (A6 I BF) I hp AQ ?_
  refine jM 4 I I I hp<|jP 5 I (A9 I) I hp<|jP 6 I (A1 I El) I hp<|jT 7 I (A6 I Bg (v:=sl x.a x.e.b.length x.cap)) I hp AQ<|jP 8 I (BA I I BQ) I hp<|jP 9 I (Ax I I) I hp<|jP 10 I (A9 I) I hp<|jP 11 I (A1 I Df) I hp<|jO 12<|EN I (Ar I I Fw) I ?_
  rintro _ _ rfl
  refine jD<|A5 K3<|Am CE (jz [5] 6) ?_
  refine jM 0 I I I hp<|jP 1 I (A9 I) I hp<|jP 2 I (A1 I De) I hp<|jT 3 I (A6 I Fg (v:=.map (some m))) I hp AQ<|jT 4 I (AI (vs:=Dt k) I Ff (hl:=by rw [Aw];omega) (hi:=by rw [List.drop_zero];exact List.take_of_length_le (Nat.le_of_eq (Aw k)))) I hp AQ ?_
  refine jO 5<|EN I (U8 G9 I I FZ) I ?_
  rintro _ _ rfl
  refine jD ?_
  exact hnorm.go () (Ke rfl)
 try simp only [dz] at hc0
 have hls: ¬ls= []:=fun e=>hc0 (by rw [e];rfl)
 rw [if_neg hls,if_neg hls] at hnorm
 refine AA ?_
 exact hnorm.go () (Ke rfl)

theorem WX{b m:Nat}{room tick:Int}{L:List En}{r:Rq}(hs:SrtK (L.map En.e))(hw: ∀x∈L,SrtW x.e.ls)(hun:0<=r.un)(hn:L.length<=100000000):Ct Tryz.prog 71 [.pointer (some ⟨b,0,none⟩),.agg (CP r).toArray] [cl b 90 [.bool true,.int .i64 room,.int .i64 tick,.int .i64 (((Ap L):Nat):Int),.map (some m)],Bs m By Cc (L.map En.kp),star (Cb 102 5) L] (fun g:Option Nat × Nat=>.agg [.int .u8 1,sl g.1 (B9 r.ix (fun e=>Bi r.who e.ls) (L.map En.e)).length g.2,.slice none 0 0].toArray) (fun g=> [cl b 90 [.bool true,.int .i64 room,.int .i64 tick,.int .i64 (((Ap (IG r.ix (fun e:Kp=>Bi r.who e.ls) (Bc r.who r.un) L)):Nat):Int),.map (some m)],Bs m By Cc ((IG r.ix (fun e:Kp=>Bi r.who e.ls) (Bc r.who r.un) L).map En.kp),star (Cb 102 5) (IG r.ix (fun e:Kp=>Bi r.who e.ls) (Bc r.who r.un) L),Aa g.1 g.2 1 3 eI (B9 r.ix (fun e=>Bi r.who e.ls) (L.map En.e))]):=by
 refine AY (n:=32) Tryz.func71 I I I fun F w0 Q hret hnorm hp=>?_
 change WC _ _ _ _ _ _ _ (_::_::_::F)
 have hul:(B9 r.ix (fun e=>Bi r.who e.ls) (L.map En.e)).length<=L.length:=Kg
 refine A4 fun _ K1=>AB (Ay (xs:=CP r) I I) I I I ?_
 rintro _ _ ⟨b3,rfl,rfl⟩
 refine AB (AZ Ce) I I I ?_
 rintro _ _ ⟨b4,rfl,rfl⟩
 refine A3 K1<|A4 fun _ K2=>wM I I<|A2 (AI (vs:=CP r) I EG (hl:=by rw [B5];omega) (hi:=CM r)) I ?_
 refine AB (AE fe I (hs:=Te (b:=b) (m:=m) (room:=room) (tick:=tick) (L:=L) (r:=r) hs hn)) I I I ?_
 rintro _ _ ⟨⟨a48,cap48⟩,rfl,hA⟩
 simp only [ca] at hA
 subst hA
 refine wA I I<|A3 K2<|A7 fun _ K3=>A4 fun _ K4=>wM I I<|A2 (BA I I Dv) I<|wM I I<|A3 K4<|AG ?_
 rw [show Ap L=Ap (EU r.ix (B9 r.ix (fun e=>Bi r.who e.ls) (L.map En.e)) (Bc r.who r.un) 0 L) from by rw [He],show L.map En.kp=(EU r.ix (B9 r.ix (fun e=>Bi r.who e.ls) (L.map En.e)) (Bc r.who r.un) 0 L).map En.kp from by rw [He],show star (Cb 102 5) L=star (Cb 102 5) (EU r.ix (B9 r.ix (fun e=>Bi r.who e.ls) (L.map En.e)) (Bc r.who r.un) 0 L) from by rw [He]]
 refine Ak (σ:=Nat) (fun i'=> [(13,.int .i64 ((i':Nat):Int))]) (fun i'=> [cl b 90 [.bool true,.int .i64 room,.int .i64 tick,.int .i64 (((Ap (EU r.ix (B9 r.ix (fun e=>Bi r.who e.ls) (L.map En.e)) (Bc r.who r.un) i' L)):Nat):Int),.map (some m)],Bs m By Cc ((EU r.ix (B9 r.ix (fun e=>Bi r.who e.ls) (L.map En.e)) (Bc r.who r.un) i' L).map En.kp),star (Cb 102 5) (EU r.ix (B9 r.ix (fun e=>Bi r.who e.ls) (L.map En.e)) (Bc r.who r.un) i' L)]) (fun i'=>i'<=(B9 r.ix (fun e=>Bi r.who e.ls) (L.map En.e)).length) (fun i'=>(B9 r.ix (fun e=>Bi r.who e.ls) (L.map En.e)).length -i') (0) [0,3,4,5,11,12,30,31] Cw D8 ?_ ?_ Sub.refl ?_
 ·exact Nat.zero_le _
 ·(try dsimp only);exact(Wk.cons Ch Wk.nil)
 rintro i' hi K5 K5
 simp only [List.cons_append,List.nil_append]
 refine A4 fun _ K6=>A2 (An I I) I<|A3 K6<|A7 fun _ K7=>AH I (fun hc0=>?_) (fun hc0=>?_)
 ·try simp only [dz] at hc0
  refine Cd (a:=a48) Bf (by omega) (fun g48 hg48 hcp48=>?_)
  subst hg48
  obtain⟨A,x,B,hM,hxL,hxk,hf,hpx,hnA,hnB,hM1⟩:=Qf (g:=(Bc r.who r.un)) hs (show i'<(B9 r.ix (fun e=>Bi r.who e.ls) (L.map En.e)).length by omega)
  rw [hM]
  refine ED 102 5 A x B ?_
  refine AA<|A5 K7<|A7 fun _ K8=>AG<|A4 fun _ K9=>A2 (AT i' I I Dv Fw (hj:=by omega)) I ?_
  refine A2 (AU (i:=i') (j:=0) I BF (hl:=gB (by omega))) I ?_
  refine wA I I<|A3 K9<|Am CE (jz [11] 12) ?_
  refine jM 0 I I I hp<|jP 1 I (A9 I) I hp<|jP 2 I (A1 I De) I hp<|jP 4 I (A1 I CU) I hp<|jM 6 I I I hp<|jP 9 I (A1 I BS) I hp<|jT 10 I (AI (vs:= [.int .u32 (r.who.toNat:Int),.int .i64 r.un]) I EE (hl:=by rw [B5];omega) (hi:=Jm r)) I hp AQ ?_
  refine Gp (rs:= [3,5]) (by kernel_rfl) I ?_
  refine Dc ?_ (Dc ?_ (by intro _ h;cases h))
  ·skip
   refine I8 I (A6 I Fg (v:=.map (some m))) I I I (fun h=>by cases h) ?_
   refine jO 5<|I8 I (AI (vs:=r.ix.l.flatMap (eU .u8)) I Cv (hl:=by rw [B5];omega) (hi:=Ci r)) I I I (fun h=>by cases h) ?_
   refine jP 7 I (AL (v:=By (r.ix,((B9 r.ix (fun e=>Bi r.who e.ls) (L.map En.e)).getD i' 0))) (Ah G0 I (hf:=DU _ _)) I) I hp ?_
   refine jT 8 I (AL (v:=.pointer (some ⟨x.p,0,none⟩)) (EO G9 I I FZ Ro) (by rw [Mw,hf];rfl)) I hp AQ ?_
   refine jO 11<|iA I (AE aR I (hs:=P4 (p:=x.p) (mm:=x.m) (w:=r.who) (u:=r.un) (ls:=x.e.ls) (hw x hxL) hun)) I ?_
   rintro _ _ ⟨⟨⟩,rfl,hA⟩
   simp only [ca] at hA
   subst hA
   refine jD<|A5 K8<|AD<|NU 102 5 A x (Bc r.who r.un x.e.ls) B ?_
   rw [show (A++x.put (x.e.with (Bc r.who r.un x.e.ls))::B)=(EU r.ix (B9 r.ix (fun e=>Bi r.who e.ls) (L.map En.e)) (Bc r.who r.un) (i'+1) L) from by rw [hM1];unfold VA DR;rw [if_neg (H6 _ _ _)];rfl,show (A++x::B).map En.kp=(EU r.ix (B9 r.ix (fun e=>Bi r.who e.ls) (L.map En.e)) (Bc r.who r.un) (i'+1) L).map En.kp from by rw [hM1];unfold VA DR;rw [if_neg (H6 _ _ _),List.map_append,List.map_append];rfl,show Ap (A++x::B)=Ap (EU r.ix (B9 r.ix (fun e=>Bi r.who e.ls) (L.map En.e)) (Bc r.who r.un) (i'+1) L) from by rw [hM1];unfold VA DR;rw [if_neg (H6 _ _ _),Cs,Cs,CZ];rfl]
   refine A2 (AN (j:=1) I I) I<|wM I I<|AW<|Av (K5 (i'+1) (by omega) (by omega))
  skip
  refine I8 I (AI (vs:=r.ix.l.flatMap (eU .u8)) I Cv (hl:=by rw [B5];omega) (hi:=Ci r)) I I I (fun h=>by cases h) ?_
  refine jP 7 I (AL (v:=By (r.ix,((B9 r.ix (fun e=>Bi r.who e.ls) (L.map En.e)).getD i' 0))) (Ah G0 I (hf:=DU _ _)) I) I hp ?_
  refine jO 3<|I8 I (A6 I Fg (v:=.map (some m))) I I I (fun h=>by cases h) ?_
  refine jT 8 I (AL (v:=.pointer (some ⟨x.p,0,none⟩)) (EO G9 I I FZ Ro) (by rw [Mw,hf];rfl)) I hp AQ ?_
  refine jO 11<|iA I (AE aR I (hs:=P4 (p:=x.p) (mm:=x.m) (w:=r.who) (u:=r.un) (ls:=x.e.ls) (hw x hxL) hun)) I ?_
  rintro _ _ ⟨⟨⟩,rfl,hA⟩
  simp only [ca] at hA
  subst hA
  refine jD<|A5 K8<|AD<|NU 102 5 A x (Bc r.who r.un x.e.ls) B ?_
  rw [show (A++x.put (x.e.with (Bc r.who r.un x.e.ls))::B)=(EU r.ix (B9 r.ix (fun e=>Bi r.who e.ls) (L.map En.e)) (Bc r.who r.un) (i'+1) L) from by rw [hM1];unfold VA DR;rw [if_neg (H6 _ _ _)];rfl,show (A++x::B).map En.kp=(EU r.ix (B9 r.ix (fun e=>Bi r.who e.ls) (L.map En.e)) (Bc r.who r.un) (i'+1) L).map En.kp from by rw [hM1];unfold VA DR;rw [if_neg (H6 _ _ _),List.map_append,List.map_append];rfl,show Ap (A++x::B)=Ap (EU r.ix (B9 r.ix (fun e=>Bi r.who e.ls) (L.map En.e)) (Bc r.who r.un) (i'+1) L) from by rw [hM1];unfold VA DR;rw [if_neg (H6 _ _ _),Cs,Cs,CZ];rfl]
  refine A2 (AN (j:=1) I I) I<|wM I I<|AW<|Av (K5 (i'+1) (by omega) (by omega))
 try simp only [dz] at hc0
 obtain rfl:i'=(B9 r.ix (fun e=>Bi r.who e.ls) (L.map En.e)).length:=by omega
 rw [TO hs rfl]
 refine Aj<|A5 K3<|A4 fun _ K10=>wM I I<|A2 (Ah Bp I) I<|AX (AV (ys:= [.int .u8 1,sl a48 (B9 r.ix (fun e=>Bi r.who e.ls) (L.map En.e)).length cap48,.slice none 0 0]) I I Ba (h1:=by simp [BD,Value.cells,Value.oneCell',sl]) (hr:=I)) I I ?_
 rintro _ _ rfl
 refine A3 K10<|AK ?_
 exact hret.go (a48,cap48) (Fl rfl rfl Bn)
end Go.Proofs.YtoakfknnaiapiaaGreat
namespace Go.Proofs.YtoakfknnaiapiaaGreat
open Go.RowKit Go.SL Go.ShM Go.SvM
set_option maxHeartbeats 1000000
set_option maxRecDepth 20000
set_option linter.all false

theorem SE{b m:Nat}{room tick:Int}{L:List En}{r:Rq}(hs:SrtK (L.map En.e))(hu:Ap L<=1099511627776)(hn:L.length<=100000000):Ct Tryz.prog 72 [.pointer (some ⟨b,0,none⟩),.agg (CP r).toArray] [cl b 90 [.bool true,.int .i64 room,.int .i64 tick,.int .i64 (((Ap L):Nat):Int),.map (some m)],Bs m By Cc (L.map En.kp),star (Cb 102 5) L] (fun g:Option Nat × Nat=>.agg [.int .u8 1,sl g.1 (B9 r.ix (fun e=>Bi r.who e.ls) (L.map En.e)).length g.2,.slice none 0 0].toArray) (fun g=> [cl b 90 [.bool true,.int .i64 room,.int .i64 tick,.int .i64 (((Ap (IG r.ix (fun e:Kp=>Bi r.who e.ls) (CC r.who) L)):Nat):Int),.map (some m)],Bs m By Cc ((IG r.ix (fun e:Kp=>Bi r.who e.ls) (CC r.who) L).map En.kp),star (Cb 102 5) (IG r.ix (fun e:Kp=>Bi r.who e.ls) (CC r.who) L),Aa g.1 g.2 1 3 eI (B9 r.ix (fun e=>Bi r.who e.ls) (L.map En.e))]):=by
 refine AY (n:=43) Tryz.func72 I I I fun F w0 Q hret hnorm hp=>?_
 change WC _ _ _ _ _ _ _ (_::_::_::F)
 have hul:(B9 r.ix (fun e=>Bi r.who e.ls) (L.map En.e)).length<=L.length:=Kg
 refine A4 fun _ K1=>AB (Ay (xs:=CP r) I I) I I I ?_
 rintro _ _ ⟨b3,rfl,rfl⟩
 refine AB (AZ Ce) I I I ?_
 rintro _ _ ⟨b4,rfl,rfl⟩
 refine A3 K1<|A4 fun _ K2=>wM I I<|A2 (AI (vs:=CP r) I EG (hl:=by rw [B5];omega) (hi:=CM r)) I ?_
 refine AB (AE fe I (hs:=Te (b:=b) (m:=m) (room:=room) (tick:=tick) (L:=L) (r:=r) hs hn)) I I I ?_
 rintro _ _ ⟨⟨a48,cap48⟩,rfl,hA⟩
 simp only [ca] at hA
 subst hA
 refine wA I I<|A3 K2<|A7 fun _ K3=>A4 fun _ K4=>wM I I<|A2 (BA I I Dv) I<|wM I I<|A3 K4<|AG ?_
 rw [show Ap L=Ap (EU r.ix (B9 r.ix (fun e=>Bi r.who e.ls) (L.map En.e)) (CC r.who) 0 L) from by rw [He],show L.map En.kp=(EU r.ix (B9 r.ix (fun e=>Bi r.who e.ls) (L.map En.e)) (CC r.who) 0 L).map En.kp from by rw [He],show star (Cb 102 5) L=star (Cb 102 5) (EU r.ix (B9 r.ix (fun e=>Bi r.who e.ls) (L.map En.e)) (CC r.who) 0 L) from by rw [He]]
 refine Ak (σ:=Nat) (fun i'=> [(15,.int .i64 ((i':Nat):Int))]) (fun i'=> [cl b 90 [.bool true,.int .i64 room,.int .i64 tick,.int .i64 (((Ap (EU r.ix (B9 r.ix (fun e=>Bi r.who e.ls) (L.map En.e)) (CC r.who) i' L)):Nat):Int),.map (some m)],Bs m By Cc ((EU r.ix (B9 r.ix (fun e=>Bi r.who e.ls) (L.map En.e)) (CC r.who) i' L).map En.kp),star (Cb 102 5) (EU r.ix (B9 r.ix (fun e=>Bi r.who e.ls) (L.map En.e)) (CC r.who) i' L)]) (fun i'=>i'<=(B9 r.ix (fun e=>Bi r.who e.ls) (L.map En.e)).length) (fun i'=>(B9 r.ix (fun e=>Bi r.who e.ls) (L.map En.e)).length -i') (0) [0,3,4,5,13,14,41,42] Cw D8 ?_ ?_ Sub.refl ?_
 ·exact Nat.zero_le _
 ·(try dsimp only);exact(Wk.cons Ch Wk.nil)
 rintro i' hi K5 K5
 simp only [List.cons_append,List.nil_append]
 refine A4 fun _ K6=>A2 (An I I) I<|A3 K6<|A7 fun _ K7=>AH I (fun hc0=>?_) (fun hc0=>?_)
 ·try simp only [dz] at hc0
  refine Cd (a:=a48) Bf (by omega) (fun g48 hg48 hcp48=>?_)
  subst hg48
  obtain⟨A,x,B,hM,hxL,hxk,hf,hpx,hnA,hnB,hM1⟩:=Qf (g:=(CC r.who)) hs (show i'<(B9 r.ix (fun e=>Bi r.who e.ls) (L.map En.e)).length by omega)
  rw [hM]
  have hux:x.e.b.length<=Ap (A++x::B):=by rw [Cs,CZ];omega
  have hub2:Ap (A++x::B)<=1099511627776:=by rw [<-hM];exact Nat.le_trans (Qe _ _ _ _ _) hu
  refine ED 102 5 A x B ?_
  refine AA<|A5 K7<|A7 fun _ K8=>AG<|A4 fun _ K9=>A2 (AT i' I I Dv Fw (hj:=by omega)) I ?_
  refine A2 (AU (i:=i') (j:=0) I BF (hl:=gB (by omega))) I ?_
  refine wA I I<|A3 K9<|A4 fun _ K10=>A2 (A1 I CU) I<|A2 (AI (vs:=r.ix.l.flatMap (eU .u8)) I Cv (hl:=by rw [B5];omega) (hi:=Ci r)) I ?_
  refine wM I I<|A2 (AL (v:=By (r.ix,((B9 r.ix (fun e=>Bi r.who e.ls) (L.map En.e)).getD i' 0))) (Ah G0 I (hf:=DU _ _)) I) I ?_
  refine AB (AZ JG) I I I ?_
  rintro _ _ ⟨b8,rfl,rfl⟩
  refine AX (AV (ys:=Dt (r.ix,(B9 r.ix (fun e=>Bi r.who e.ls) (L.map En.e)).getD i' 0)) I I Hk (h1:=encK.one _) (hv:=by simpa [Value.cells,By] using Aw (r.ix,(B9 r.ix (fun e=>Bi r.who e.ls) (L.map En.e)).getD i' 0)) (hr:=by simp [Value.cells,By])) I I ?_
  rintro _ _ rfl
  refine A3 K10<|A7 fun _ K11=>Am CE (fun _=>2) ?_
  refine jM 0 I I I hp<|jP 1 I (A9 I) I hp<|jP 2 I (A1 I De) I hp<|jT 3 I (A6 I Fg (v:=.map (some m))) I hp AQ<|jT 4 I (AI (vs:=Dt (r.ix,(B9 r.ix (fun e=>Bi r.who e.ls) (L.map En.e)).getD i' 0)) I Ff (hl:=by rw [Aw];omega) (hi:=by rw [List.drop_zero];exact List.take_of_length_le (Nat.le_of_eq (Aw (r.ix,(B9 r.ix (fun e=>Bi r.who e.ls) (L.map En.e)).getD i' 0))))) I hp AQ ?_
  refine jT 5 I (AL (v:=.pointer (some ⟨x.p,0,none⟩)) (EO G9 I I FZ Ro) (by rw [Mw,hf];rfl)) I hp AQ ?_
  refine jP 6 I (Ag I) I hp<|jD<|A5 K11<|A7 fun _ K12=>Am CE (jz [7] 8) ?_
  refine jM 0 I I I hp<|jP 1 I (A9 I) I hp<|jP 2 I (A1 I E0) I hp<|jT 3 I (A6 I Fb (v:=.map (some x.m))) I hp AQ<|jP 4 I (A1 I BS) I hp<|jP 5 I (A1 I Cf) I hp<|jT 6 I (A6 I BX (v:=.int .u32 ((r.who.toNat:Nat):Int)) (hi:=Fu r)) I hp AQ<|jO 7<|EN I (U8 IT I I EW) I ?_
  rintro _ _ rfl
  refine jD<|A5 K12<|AD<|wM I I<|A2 (AI (vs:=Dt (r.ix,(B9 r.ix (fun e=>Bi r.who e.ls) (L.map En.e)).getD i' 0)) I Ff (hl:=by rw [Aw];omega) (hi:=by rw [List.drop_zero];exact List.take_of_length_le (Nat.le_of_eq (Aw (r.ix,(B9 r.ix (fun e=>Bi r.who e.ls) (L.map En.e)).getD i' 0))))) I ?_
  refine wM I I<|AB (AE ff I (hs:=Xo (b:=b) (m:=m) (u:=Ap (A++x::B)) (room:=room) (tick:=tick) (k:=(r.ix,(B9 r.ix (fun e=>Bi r.who e.ls) (L.map En.e)).getD i' 0)) (x:=x) (l:=(A++x::B).map En.kp) (ls:=CC r.who x.e.ls) hux hub2)) I I I ?_
  rintro _ _ ⟨⟨⟩,rfl,hA⟩
  simp only [ca] at hA
  subst hA
  refine AW<|A5 K8<|AD<|YY 102 5 A x B (CC r.who x.e.ls) ?_
  rw [<-hxk,Xw,aK hnA hnB,show A++(((DR x.e (CC r.who x.e.ls)).map x.put).toList++B)=(EU r.ix (B9 r.ix (fun e=>Bi r.who e.ls) (L.map En.e)) (CC r.who) (i'+1) L) from hM1.symm]
  refine A2 (AN (j:=1) I I) I<|wM I I<|AW<|Av (K5 (i'+1) (by omega) (by omega))
 try simp only [dz] at hc0
 obtain rfl:i'=(B9 r.ix (fun e=>Bi r.who e.ls) (L.map En.e)).length:=by omega
 rw [TO hs rfl]
 refine Aj<|A5 K3<|A4 fun _ K13=>wM I I<|A2 (Ah Bp I) I<|AX (AV (ys:= [.int .u8 1,sl a48 (B9 r.ix (fun e=>Bi r.who e.ls) (L.map En.e)).length cap48,.slice none 0 0]) I I Ba (h1:=by simp [BD,Value.cells,Value.oneCell',sl]) (hr:=I)) I I ?_
 rintro _ _ rfl
 refine A3 K13<|AK ?_
 exact hret.go (a48,cap48) (Fl rfl rfl Bn)
end Go.Proofs.YtoakfknnaiapiaaGreat
/-
 What a server answers,and what it holds then,in plain words. (Conditions:none;no program in sight.)
-/
set_option maxRecDepth 20000
namespace Go.SvM
open Go.SL Go.ShM Go.RowKit
structure Rp where
 kind:Int
 ns:List Int
 bs:List B8
def Or(k:Int):Rp:=⟨k,[],[]⟩
def E2(room:Int)(l:List Kp)(r:Rq):Rp × List Kp:=
 match EF (r.ix,r.num) l with
 |none=>if room -(C0 l:Int)<(r.b.l.length:Int) then (Or 3,l) else (Or 2,IF ⟨r.ix,r.num,r.b.l,[(r.who,r.un)]⟩ l)
 |some e=>if e.b≠r.b.l then (Or 4,l) else if Bi r.who e.ls=false/\64<=e.ls.length then (Or 3,l) else (Or 2,Gz (r.ix,r.num) (Bc r.who r.un) l)
def FU(l:List Kp)(r:Rq):Rp:=
 match EF (r.ix,r.num) l with
 |none=>Or 6
 |some e=>if (e.b.length:Int)<r.at_+r.len then Or 6 else ⟨5,[],(e.b.take (r.at_.toNat+r.len.toNat)).drop r.at_.toNat⟩
def CX(r:Rq)(l:List Kp):List Int:=B9 r.ix (fun e=>Bi r.who e.ls) l
def PQ(room:Int)(l:List Kp)(r:Rq):Rp × List Kp:=
 if r.kind=1#8 then (⟨1,B9 r.ix (fun _=>true) l,[]⟩,l)
 else if r.kind=2#8 then E2 room l r
 else if r.kind=3#8 then (FU l r,l)
 else if r.kind=4#8 then (⟨1,CX r l,[]⟩,KZ r.ix (fun e=>Bi r.who e.ls) (Bc r.who r.un) l)
 else (⟨1,CX r l,[]⟩,KZ r.ix (fun e=>Bi r.who e.ls) (CC r.who) l)
def C2(t:Int)(r:Rq):Bool:=decide (t<=r.un) ||(decide (r.kind≠2#8) && decide (r.kind≠4#8))
structure Sv1 where
 tick:Int
 l:List Kp
def Eg(room:Int)(s:Sv1)(t:Int)(r:Rq):Rp × Int × Sv1:=
 if t<s.tick\/1099511627776<t then (Or 0,191,s)
 else if IE r && C2 t r then ((PQ room (BW t s.l) r).1,0,⟨t,(PQ room (BW t s.l) r).2⟩)
 else (Or 7,0,⟨t,BW t s.l⟩)
structure Wf (room:Int) (s:Sv1):Prop where
 rm:0<=room/\room<=1073741824
 tk:0<=s.tick/\s.tick<=1099511627776
 srt:SrtK s.l
 ws: ∀e∈s.l,SrtW e.ls
 num: ∀e∈s.l,0<=e.num/\e.num<255
 len: ∀e∈s.l,e.b.length<=33554432
 ls: ∀e∈s.l,1<=e.ls.length/\e.ls.length<=64
 un: ∀e∈s.l,∀x∈e.ls,s.tick<=x.2/\x.2<=1099511627776
 used:(C0 s.l:Int)<=room
structure WfK (t:Int) (e:Kp):Prop where
 ws:SrtW e.ls
 num:0<=e.num/\e.num<255
 len:e.b.length<=33554432
 ls:1<=e.ls.length/\e.ls.length<=64
 un: ∀x∈e.ls,t<=x.2/\x.2<=1099511627776
theorem Wf.one{room:Int}{s:Sv1}(h:Wf room s){e:Kp}(he:e∈s.l):WfK s.tick e:=⟨h.ws e he,h.num e he,h.len e he,h.ls e he,h.un e he⟩
theorem Wf.of{room:Int}{s:Sv1}(rm:0<=room/\room<=1073741824)(tk:0<=s.tick/\s.tick<=1099511627776)(srt:SrtK s.l)(all: ∀e∈s.l,WfK s.tick e)(used:(C0 s.l:Int)<=room):Wf room s:=
 ⟨rm,tk,srt,fun e h=>(all e h).ws,fun e h=>(all e h).num,fun e h=>(all e h).len,fun e h=>(all e h).ls,fun e h=>(all e h).un,used⟩
theorem T9{f:Kp ->Option Kp}(hf: ∀e x,f e=some x ->x.b=e.b): ∀l:List Kp,C0 (l.filterMap f)<=C0 l
 | []=>Nat.le_refl _
 |x::r=>by
  have h:=T9 hf r
  rw [List.filterMap_cons,E1]
  split
  ·omega
  ·rename_i y hy;rw [E1,hf x y hy];omega
theorem Wf.fm{room:Int}{s:Sv1}{t:Int}{f:Kp ->Option Kp}(h:Wf room s)(ht:0<=t/\t<=1099511627776)(hf: ∀e x,f e=some x ->x.key=e.key/\x.b=e.b)(hk: ∀e∈s.l,∀x,f e=some x ->WfK t x):Wf room ⟨t,s.l.filterMap f⟩:=by
 refine Wf.of h.rm ht (h.srt.fm fun e x q=>(hf e x q).1) (fun y hy=>?_) ?_
 ·obtain⟨e,he,q⟩:=List.mem_filterMap.1 hy
  exact hk e he y q
 ·have:=T9 (fun e x q=>(hf e x q).2) s.l
  have:=h.used
  show ((C0 (s.l.filterMap f):Nat):Int)<=room
  omega
theorem WfK.keep{t t':Int}{e x:Kp}{ls:List Ls}(h:WfK t e)(hx:DR e ls=some x)(hs:SrtW ls)(hl:ls.length<=64)(hu: ∀y∈ls,t'<=y.2/\y.2<=1099511627776):WfK t' x:=by
 obtain⟨h1,h2,h3,h4⟩:=Ej hx
 have hn:x.num=e.num:=congrArg Prod.snd h1
 have h5:1<=ls.length:=by
  cases ls with
  |nil=>exact absurd rfl h4
  |cons _ _=>simp
 exact⟨by rw [h3];exact hs,by rw [hn];exact h.num,by rw [h2];exact h.len,by rw [h3];exact⟨h5,hl⟩,by rw [h3];exact hu⟩
theorem SrtW.filter{ls:List Ls}(p:Ls ->Bool)(h:SrtW ls):SrtW (ls.filter p):=List.Pairwise.filter p h
theorem Wf.tick{room:Int}{s:Sv1}{t:Int}(h:Wf room s)(h1:s.tick<=t)(h2:t<=1099511627776):Wf room ⟨t,BW t s.l⟩:=by
 have h0:=h.tk
 refine h.fm ⟨by omega,h2⟩ (fun e x q=>⟨(Ej q).1,(Ej q).2.1⟩) (fun e he x q=>?_)
 have hw:=h.one he
 refine hw.keep q (SrtW.filter _ hw.ws) (Nat.le_trans (List.length_filter_le _ _) hw.ls.2) (fun y hy=>?_)
 obtain⟨a,b⟩:=List.mem_filter.1 hy
 exact⟨by simpa using b,(hw.un y a).2⟩
theorem My(w:Bv)(u:Int): ∀ls:List Ls,(Bc w u ls).length<=ls.length+1/\(Bi w ls=true ->SrtW ls ->(Bc w u ls).length=ls.length)
 | []=>⟨by simp [Bc],fun h=>by simp [Bi] at h⟩
 |x::r=>by
  obtain⟨i1,i2⟩:=My w u r
  unfold Bc
  by_cases e:x.1=w
  ·rw [if_pos e];exact⟨by simp,fun _ _=>by simp⟩
  ·rw [if_neg e]
   by_cases q:w.toNat<x.1.toNat
   ·rw [if_pos q]
    refine⟨by simp,fun hh hs=>?_⟩
    exfalso
    obtain⟨y,hy,hw⟩:=List.mem_map.1 (Qx.1 hh)
    rcases List.mem_cons.1 hy with rfl|hy
    ·exact e hw
    ·have:=(List.pairwise_cons.1 hs).1 y hy
     unfold Lj at this;rw [hw] at this;omega
   ·rw [if_neg q]
    refine⟨by simp;omega,fun hh hs=>?_⟩
    rw [List.length_cons,List.length_cons,i2 ?_ (List.pairwise_cons.1 hs).2]
    unfold Bi at hh ⊢
    rw [List.any_cons] at hh
    simpa [e] using hh
theorem TT{t:Int}{w:Bv}{u:Int}(h1:t<=u)(h2:u<=1099511627776): ∀ {ls:List Ls},(∀x∈ls,t<=x.2/\x.2<=1099511627776) -> ∀x∈Bc w u ls,t<=x.2/\x.2<=1099511627776
 | [],_,x,hx=>by
  rw [Bc,List.mem_singleton] at hx;subst hx;exact⟨h1,h2⟩
 |y::r,h,x,hx=>by
  unfold Bc at hx
  have hy:=h y (by simp)
  split at hx
  ·rcases List.mem_cons.1 hx with rfl|hx
   ·exact⟨by simp only;omega,by simp only;omega⟩
   ·exact h x (List.mem_cons_of_mem _ hx)
  ·split at hx
   ·rcases List.mem_cons.1 hx with rfl|hx
    ·exact⟨h1,h2⟩
    ·exact h x hx
   ·rcases List.mem_cons.1 hx with rfl|hx
    ·exact hy
    ·exact TT h1 h2 (fun z hz=>h z (List.mem_cons_of_mem _ hz)) x hx
structure MayR (r:Rq):Prop where
 num:0<=r.num/\r.num<255
 un:0<=r.un/\r.un<=1099511627776
 len:r.b.l.length<=33554432
 kind:r.kind=1#8\/r.kind=2#8\/r.kind=3#8\/r.kind=4#8\/r.kind=5#8
 fetch:r.kind=3#8 ->(0<=r.at_/\r.at_<=33554432)/\1<=r.len/\r.len<=131072
theorem KG{k:B8}{n:Nat}(hn:n<256)(h:(k.toNat:Int)=n):k=BitVec.ofNat 8 n:=by
 apply BitVec.eq_of_toNat_eq
 rw [BitVec.toNat_ofNat,Nat.mod_eq_of_lt (by omega)]
 omega
theorem KB{r:Rq}(h:IE r=true):MayR r:=by
 unfold IE Le Fc at h
 simp only [Bool.or_eq_true,Bool.and_eq_true,decide_eq_true_eq] at h
 refine⟨⟨by omega,by omega⟩,⟨by omega,by omega⟩,by simp only [Bool.false_eq_true,false_or,true_or] at h;omega,?_,fun hk=>?_⟩
 ·rcases h with (((h|h)|h)|h)|h
  ·exact .inl (KG (n:=1) (by omega) (by omega))
  ·exact .inr (.inl (KG (n:=2) (by omega) (by omega)))
  ·exact .inr (.inr (.inl (KG (n:=3) (by omega) (by omega))))
  ·exact .inr (.inr (.inr (.inl (KG (n:=4) (by omega) (by omega)))))
  ·exact .inr (.inr (.inr (.inr (KG (n:=5) (by omega) (by omega)))))
 ·have:(r.kind.toNat:Int)=3:=by rw [hk];rfl
  rcases h with (((h|h)|h)|h)|h <;>omega
end Go.SvM
/-
 What a server keeps to,kept by every call. (Conditions:none;no program in sight.)
-/
set_option maxRecDepth 20000
namespace Go.SvM
open Go.SL Go.ShM Go.RowKit
theorem Kt(e:Kp): ∀l:List Kp,(e::l).Perm (IF e l)
 | []=>.refl _
 |x::r=>by
  unfold IF
  split
  ·exact .refl _
  ·exact(List.Perm.swap _ _ _).trans ((Kt e r).cons x)
theorem WM(k:Ky)(f:List Ls ->List Ls)(l:List Kp):Gz k f l=l.filterMap fun e=>some (if e.key=k then e.with (f e.ls) else e):=by
 unfold Gz
 rw [<-List.filterMap_eq_map];rfl
theorem Sg{l:List Kp}(h:SrtK l){k:Ky}{e e':Kp}(hf:EF k l=some e)(hm:e'∈l)(hk:e'.key=k):e'=e:=by
 have:=OH h.nd hm
 rw [hk,hf] at this
 exact(Option.some.inj this).symm
theorem Qk{t:Int}{r:Rq}{e x:Kp}(h:WfK t e)(hu:t<=r.un/\r.un<=1099511627776)(hok:Bi r.who e.ls=true\/e.ls.length<64)(hx:DR e (Bc r.who r.un e.ls)=some x):WfK t x:=by
 refine h.keep hx (Qj h.ws).1 ?_ (TT hu.1 hu.2 h.un)
 obtain⟨a,b⟩:=My r.who r.un e.ls
 rcases hok with q|q
 ·rw [b q h.ws];exact h.ls.2
 ·omega
theorem N5{e:Kp}{w:Bv}{u:Int} :DR e (Bc w u e.ls)=some (e.with (Bc w u e.ls)):=by
 unfold DR;rw [if_neg (H6 _ _ _)]
theorem Wf.do_{room:Int}{s:Sv1}{r:Rq}(h:Wf room s)(hm:MayR r)(hl:C2 s.tick r=true):Wf room ⟨s.tick,(PQ room s.l r).2⟩:=by
 have hun:r.kind=2#8\/r.kind=4#8 ->s.tick<=r.un:=fun hk=>by
  unfold C2 at hl
  simp only [Bool.or_eq_true,Bool.and_eq_true,decide_eq_true_eq,ne_eq] at hl
  rcases hl with q|⟨q1,q2⟩
  ·exact q
  ·rcases hk with k|k
   ·exact absurd k q1
   ·exact absurd k q2
 unfold PQ
 split
 ·exact h
 split
 ·rename_i _ hk
  have hun':=hun (.inl hk)
  unfold E2
  split
  ·rename_i hf
   split
   ·exact h
   ·rename_i hr
    have hno:=Si hf
    refine Wf.of h.rm h.tk (Qr h.srt hno) (fun e he=>?_) ?_
    ·rcases N7 he with rfl|he
     ·exact⟨by simp [SrtW],hm.num,hm.len,by simp,fun x hx=>by
       rw [List.mem_singleton] at hx;subst hx;exact⟨hun',hm.un.2⟩⟩
     ·exact h.one he
    ·show ((C0 (IF _ s.l):Nat):Int)<=room
     rw [<-MN (Kt _ _),E1]
     simp only
     omega
  ·rename_i e hf
   split
   ·exact h
   split
   ·exact h
   ·rename_i hne hq
    show Wf room ⟨s.tick,Gz _ _ _⟩
    rw [WM]
    refine h.fm h.tk (fun e' x q=>?_) (fun e' he' x q=>?_)
    ·cases q;split <;>exact⟨rfl,rfl⟩
    ·cases q
     split
     ·rename_i hkey
      have:=Sg h.srt hf he' hkey
      subst this
      refine Qk (r:=r) (h.one he') ⟨hun',hm.un.2⟩ ?_ N5
      by_cases hw:Bi r.who e'.ls=true
      ·exact .inl hw
      ·refine .inr (Nat.lt_of_not_le fun h64=>hq ⟨by simpa using hw,h64⟩)
     ·exact h.one he'
 split
 ·exact h
 split
 ·rename_i _ _ _ hk
  have hun':=hun (.inr hk)
  refine h.fm h.tk (fun e x q=>?_) (fun e he x q=>?_)
  ·split at q
   ·exact⟨(Ej q).1,(Ej q).2.1⟩
   ·cases q;exact⟨rfl,rfl⟩
  ·split at q
   ·rename_i hp
    rw [Bool.and_eq_true] at hp
    exact Qk (h.one he) ⟨hun',hm.un.2⟩ (.inl hp.2) q
   ·cases q;exact h.one he
 ·refine h.fm h.tk (fun e x q=>?_) (fun e he x q=>?_)
  ·split at q
   ·exact⟨(Ej q).1,(Ej q).2.1⟩
   ·cases q;exact⟨rfl,rfl⟩
  ·split at q
   ·have hw:=h.one he
    refine hw.keep q (SrtW.filter _ hw.ws) (Nat.le_trans (List.length_filter_le _ _) hw.ls.2) (fun y hy=>hw.un y ((List.mem_filter.1 hy).1))
   ·cases q;exact h.one he
theorem Wf.call{room:Int}{s:Sv1}{t:Int}{r:Rq}(h:Wf room s):Wf room (Eg room s t r).2.2:=by
 unfold Eg
 split
 ·exact h
 ·have ht:=h.tick (t:=t) (by omega) (by omega)
  split
  ·rename_i hp
   rw [Bool.and_eq_true] at hp
   exact ht.do_ (KB hp.1) hp.2
  ·exact ht
theorem cx(room:Int)(l:List Kp)(r:Rq):(PQ room l r).2.length<=l.length+1:=by
 unfold PQ
 split
 ·exact Nat.le_succ _
 split
 ·unfold E2
  split
  ·split
   ·exact Nat.le_succ _
   ·exact Nat.le_of_eq (Kt _ _).length_eq.symm
  ·split
   ·exact Nat.le_succ _
   split
   ·exact Nat.le_succ _
   ·unfold Gz;simp
 split
 ·exact Nat.le_succ _
 split
 ·exact Nat.le_trans (List.length_filterMap_le _ _) (Nat.le_succ _)
 ·exact Nat.le_trans (List.length_filterMap_le _ _) (Nat.le_succ _)
theorem XA(room:Int)(s:Sv1)(t:Int)(r:Rq):(Eg room s t r).2.2.l.length<=s.l.length+1:=by
 unfold Eg
 have h1:(BW t s.l).length<=s.l.length:=List.length_filterMap_le _ _
 split
 ·exact Nat.le_succ _
 split
 ·exact Nat.le_trans (cx _ _ _) (Nat.succ_le_succ h1)
 ·exact Nat.le_trans h1 (Nat.le_succ _)
theorem FT{k:Ky} : ∀ {L:List En},EF k (L.map En.e)=(DV k L).map En.e
 | []=>rfl
 |x::r=>by
  have ih:=FT (k:=k) (L:=r)
  unfold EF DV at*
  rw [List.map_cons]
  by_cases h:x.e.key=k
  ·rw [List.find?_cons_of_pos (by simpa using h),List.find?_cons_of_pos (by simpa using h)];rfl
  ·rw [List.find?_cons_of_neg (by simpa using h),List.find?_cons_of_neg (by simpa using h),ih]
theorem IN{k:Ky}{f:List Ls ->List Ls} : ∀ {l:List Kp},k ∉ l.map Kp.key ->Gz k f l=l
 | [],_=>rfl
 |x::r,h=>by
  rw [List.map_cons,List.mem_cons,not_or] at h
  unfold Gz
  rw [List.map_cons,if_neg (fun e=>h.1 e.symm)]
  rw [show List.map (fun e=>if e.key=k then e.with (f e.ls) else e) r=Gz k f r from rfl,IN h.2]
theorem WN{k:Ky}{f:List Ls ->List Ls}{A B:List En}{x:En}(h:SrtK ((A++x::B).map En.e))(hk:x.e.key=k):Gz k f ((A++x::B).map En.e)=(A++x.put (x.e.with (f x.e.ls))::B).map En.e:=by
 have hnd:=h.nd
 rw [List.map_append,List.map_cons,List.map_append,List.map_cons] at hnd
 have h2:=List.nodup_cons.1 ((List.perm_middle.nodup_iff).1 hnd)
 rw [List.mem_append,not_or,hk] at h2
 have hA:=IN (f:=f) h2.1.1
 have hB:=IN (f:=f) h2.1.2
 unfold Gz at hA hB ⊢
 rw [List.map_append,List.map_cons,List.map_append,List.map_cons,if_pos hk,hA,hB,List.map_append,List.map_cons]
 rfl
theorem Hx{k:Ky}{L:List En}{x:En}(h:DV k L=some x): ∃A B,L=A++x::B/\x.e.key=k:=by
 obtain⟨h1,A,B,h2⟩:=Sj h
 exact⟨A,B,h2,h1⟩
theorem c7{room:Int}{l:List Kp}{r:Rq}(h:r.kind=1#8):PQ room l r=(⟨1,B9 r.ix (fun _=>true) l,[]⟩,l):=by unfold PQ;rw [if_pos h]
theorem c6{room:Int}{l:List Kp}{r:Rq}(h:r.kind=2#8):PQ room l r=E2 room l r:=by unfold PQ;rw [h];rfl
theorem bw{room:Int}{l:List Kp}{r:Rq}(h:r.kind=3#8):PQ room l r=(FU l r,l):=by unfold PQ;rw [h];rfl
theorem bu{room:Int}{l:List Kp}{r:Rq}(h:r.kind=4#8):PQ room l r=(⟨1,CX r l,[]⟩,KZ r.ix (fun e=>Bi r.who e.ls) (Bc r.who r.un) l):=by unfold PQ;rw [h];rfl
theorem br{room:Int}{l:List Kp}{r:Rq}(h:r.kind=5#8):PQ room l r=(⟨1,CX r l,[]⟩,KZ r.ix (fun e=>Bi r.who e.ls) (CC r.who) l):=by unfold PQ;rw [h];rfl
theorem LN{room:Int}{l:List Kp}{r:Rq}(hf:EF (r.ix,r.num) l=none)(h:room -(C0 l:Int)<(r.b.l.length:Int)):E2 room l r=(Or 3,l):=by unfold E2;rw [hf];exact if_pos h
theorem MY{room:Int}{l:List Kp}{r:Rq}(hf:EF (r.ix,r.num) l=none)(h: ¬room -(C0 l:Int)<(r.b.l.length:Int)):E2 room l r=(Or 2,IF ⟨r.ix,r.num,r.b.l,[(r.who,r.un)]⟩ l):=by unfold E2;rw [hf];exact if_neg h
theorem Jw{room:Int}{l:List Kp}{r:Rq}{e:Kp}(hf:EF (r.ix,r.num) l=some e)(h:e.b≠r.b.l):E2 room l r=(Or 4,l):=by unfold E2;rw [hf];exact if_pos h
theorem LL{room:Int}{l:List Kp}{r:Rq}{e:Kp}(hf:EF (r.ix,r.num) l=some e)(h:e.b=r.b.l)(h2:Bi r.who e.ls=false/\64<=e.ls.length):E2 room l r=(Or 3,l):=by
 unfold E2;rw [hf]
 show (if e.b≠r.b.l then _ else _)=_
 rw [if_neg (fun q=>q h)];exact if_pos h2
theorem LM{room:Int}{l:List Kp}{r:Rq}{e:Kp}(hf:EF (r.ix,r.num) l=some e)(h:e.b=r.b.l)(h2: ¬(Bi r.who e.ls=false/\64<=e.ls.length)):E2 room l r=(Or 2,Gz (r.ix,r.num) (Bc r.who r.un) l):=by
 unfold E2;rw [hf]
 show (if e.b≠r.b.l then _ else _)=_
 rw [if_neg (fun q=>q h)];exact if_neg h2
theorem OI{l:List Kp}{r:Rq}(hf:EF (r.ix,r.num) l=none):FU l r=Or 6:=by unfold FU;rw [hf]
theorem NE{l:List Kp}{r:Rq}{e:Kp}(hf:EF (r.ix,r.num) l=some e)(h:(e.b.length:Int)<r.at_+r.len):FU l r=Or 6:=by unfold FU;rw [hf];exact if_pos h
theorem OJ{l:List Kp}{r:Rq}{e:Kp}(hf:EF (r.ix,r.num) l=some e)(h: ¬(e.b.length:Int)<r.at_+r.len):FU l r=⟨5,[],(e.b.take (r.at_.toNat+r.len.toNat)).drop r.at_.toNat⟩:=by unfold FU;rw [hf];exact if_neg h
theorem HA{P:Program}{f:FuncId}{args:List Value}{pre:List Ao}{ρ ρ':Type}{val:ρ ->Value}{post:ρ ->List Ao}{val':ρ' ->Value}{post':ρ' ->List Ao}(h:Ct P f args pre val post)(pick:ρ ->ρ')(hv: ∀r,val r=val' (pick r))(hs: ∀r F w,sat w (post r++F) ->sat w (post' (pick r)++F)):Ct P f args pre val' post':=
 h.reg fun r F w q=>⟨pick r,hv r,hs r F w q⟩
theorem Ei(L:List En):Ap L=C0 (L.map En.e):=rfl
end Go.SvM
