/-
  Contracts of functions that the claim reaches, or the logic and the plain laws that they rest on, or the row over them. (Conditions: none beyond the statement.)
-/
import Derived.Test.YtoakfknnaiapiaaGreatKAU
import Derived.Test.YtoakfknnaiapiaaGreatKAV
import Derived.Test.YtoakfknnaiapiaaGreatKAT
import Derived.Test.YtoakfknnaiapiaaGreatRows
import Derived.Test.YtoakfknnaiapiaaGreatLibA
import Derived.Test.YtoakfknnaiapiaaGreatLibB
set_option linter.all false
namespace Go.Proofs.YtoakfknnaiapiaaGreat
open Go.RowKit Go.SL Go.ShM Go.SvM
set_option maxHeartbeats 1000000
set_option maxRecDepth 20000
set_option linter.all false
theorem cf5:DF Tryz.prog 5=true:=by kernel_rfl
theorem cf6:DF Tryz.prog 6=true:=by kernel_rfl
theorem aS:DF Tryz.prog 8=true:=by kernel_rfl
theorem cf10:DF Tryz.prog 10=true:=by kernel_rfl
theorem fG:SG Tryz.prog 33=some ([.pointer none,.pointer none,.pointer none,.pointer none],[(0,2),(2,2)]):=by kernel_rfl
theorem fF:SG Tryz.prog 38=some ([.pointer none,.pointer none,.pointer none,.pointer none,.slice none 0 0,.slice none 0 0,.slice none 0 0,.slice none 0 0,.slice none 0 0,.slice none 0 0],[(0,4),(4,1),(5,1),(6,1),(7,1),(8,1),(9,1)]):=by kernel_rfl
theorem bV:SG Tryz.prog 49=some ([.int .i64 0,.int .i64 0,.int .i64 0,.int .i64 0,.int .u8 0,.int .u8 0,.int .u8 0,.int .u8 0,.int .u8 0,.int .u8 0,.int .u8 0,.int .u8 0,.int .u8 0,.int .u8 0,.int .u8 0,.int .u8 0,.int .u8 0,.int .u8 0,.int .u8 0,.int .u8 0,.int .u8 0,.int .i64 0,.int .i64 0,.int .i64 0,.int .u32 0,.int .i64 0,.slice none 0 0],[(0,1),(1,1),(2,1),(3,1),(4,23)]):=by kernel_rfl
theorem Wb{X:Ao}{v1 v2 w3:Value}{kvs1 kvs2:List KV}{ao1 ao2 ao3:Option Addr}{cap1 cap2 cap3:Nat}{room1 tick1 room2 tick2:Int}{fr:Bool}{qs:List AcQ}(hV1:Sv [X] v1 19 EC kvs1 ao1 cap1)(hO1: ∀k∈kvs1,Lh X k)(hn1:kvs1.length<=100000000)(hb1: ∀k∈kvs1,k.b.l.length<=900000000000)(hl1: ∀k∈kvs1,k.ls.l.length<=900000000000)(hu1:C0 (kvs1.map KV.kp)<=4000000000000)(hV2:Sv [X] v2 19 EC kvs2 ao2 cap2)(hO2: ∀k∈kvs2,Lh X k)(hn2:kvs2.length<=100000000)(hb2: ∀k∈kvs2,k.b.l.length<=900000000000)(hl2: ∀k∈kvs2,k.ls.l.length<=900000000000)(hu2:C0 (kvs2.map KV.kp)<=4000000000000)(hV3:Sv [X] w3 27 Cj qs ao3 cap3)(hQ: ∀a∈qs,Sv [X] a.r.b.v 1 (eU .u8 (w:=8)) a.r.b.l a.r.b.ao a.r.b.cap)(hm:kvs1.length+kvs2.length+qs.length<=1048576):Ct Tryz.prog 3 [(.agg ([.int .i64 room1,.int .i64 tick1,v1]:List Value).toArray),(.agg ([.int .i64 room2,.int .i64 tick2,v2]:List Value).toArray),(.bool fr),w3] [X] (fun _:Unit=>.bool true) (fun _=> [X]):=by
 refine AY (n:=182) Tryz.func3 I I I fun F w0 Q hret hnorm hp=>?_
 change WC _ _ _ _ _ _ _ (_::F)
 refine A4 fun _ K1=>AB (Ay (xs:= [.int .i64 room1,.int .i64 tick1,v1]) I I) I I I ?_
 rintro _ _ ⟨b4,rfl,rfl⟩
 refine AB (Ay (xs:= [.int .i64 room2,.int .i64 tick2,v2]) I I) I I I ?_
 rintro _ _ ⟨b5,rfl,rfl⟩
 refine wA I I<|A3 K1<|A4 fun _ K2=>A2 (AI (vs:= [.int .i64 room1,.int .i64 tick1,v1]) I Fv) I<|wM I I<|AB (AE cf4 I (hs:=OO (X:=X) (kvs:=kvs1) (room:=room1) (tick:=tick1) (fr:=fr) hV1 hO1 hn1 hb1 hl1 hu1)) I I I ?_
 rintro _ _ ⟨⟨q0,hq0,hz0⟩,rfl,hA⟩
 simp only [ca] at hA
 subst hA
 refine wM I I<|A2 (BE I) I<|A2 (BN I) I<|AB (AZ JH) I I I ?_
 rintro _ _ ⟨b9,rfl,rfl⟩
 refine AX (AV (ys:=HZ q0) I I F6 (h1:=by simpa [Value.cells] using WY q0) (hv:=by simpa [Value.cells] using H2 q0) (hr:=by simp [Value.cells])) I I ?_
 rintro _ _ rfl
 refine wA I I<|A3 K2<|A4 fun _ K3=>A2 (AI (vs:= [.int .i64 room2,.int .i64 tick2,v2]) I Fv) I<|AB (AE cf4 I (hs:=OO (X:=X) (kvs:=kvs2) (room:=room2) (tick:=tick2) (fr:=false) hV2 hO2 hn2 hb2 hl2 hu2)) I I I ?_
 rintro _ _ ⟨⟨q1,hq1,hz1⟩,rfl,hA⟩
 simp only [ca] at hA
 subst hA
 refine wM I I<|A2 (BE I) I<|A2 (BN I) I<|AB (AZ JH) I I I ?_
 rintro _ _ ⟨b11,rfl,rfl⟩
 refine AX (AV (ys:=HZ q1) I I F6 (h1:=by simpa [Value.cells] using WY q1) (hv:=by simpa [Value.cells] using H2 q1) (hr:=by simp [Value.cells])) I I ?_
 rintro _ _ rfl
 refine wA I I<|A3 K3<|A7 fun _ K4=>A4 fun _ K5=>wM I I<|A2 (Au I) I<|wM I I<|wM I I<|A2 (Au I) I<|A2 (A8 I I) I<|A3 K5<|AM I<|AA<|A5 K4<|A4 fun _ K6=>?_
 refine A2 (AI (vs:=HZ q0) I IB (hl:=by rw [H2];omega) (hi:=by rw [List.drop_zero];exact List.take_of_length_le (Nat.le_of_eq (H2 q0)))) I ?_
 refine A2 (AI (vs:=HZ q1) I IB (hl:=by rw [H2];omega) (hi:=by rw [List.drop_zero];exact List.take_of_length_le (Nat.le_of_eq (H2 q1)))) I ?_
 refine A2 (AL (v:=.agg (HZ q0++HZ q1).toArray) (Ah fG I (hf:=SJ q0 q1)) I) I<|A2 (AL (v:=.agg ((Rx q0 q1).cells).toArray) (Ah fF I (hf:=Um q0 q1)) I) I<|AB (Ay (xs:=(Rx q0 q1).cells) I I) I I I ?_
 rintro _ _ ⟨b39,rfl,rfl⟩
 refine eL q0 q1 ?_
 refine wA rfl rfl<|A3 K6<|A7 fun _ K7=>A4 fun _ K8=>wA rfl rfl<|A3 K8<|AG<|Ak (σ:=Nat × YS) (fun ⟨i,y⟩=> [(14,.int .i64 ((i:Nat):Int))]) (fun ⟨i,y⟩=> [Jo b39 y]) (fun ⟨i,y⟩=>i<=qs.length/\YI (kvs1.length+kvs2.length) i y) (fun ⟨i,y⟩=>qs.length -i) ⟨0,(Rx q0 q1)⟩ [3,13,15,16,17,63,64,65,66,67,68,69,70,71,72,73,74,75,76,77,78,79,80,81,82,83,84,85,86,87,88,89,90,91,92,93,94,95,96,97,98,99,100,101,102,103,104,105,106,107,108,109,110,111,112,113,114,115,116,117,118,119,120,121,122,123,124,125,126,127,128,129,130,131,132,133,134,135,136,137,138,139,140,141,142,143,144,145,146,147,148,149,150,151,152,153,154,155,156,157,158,159,160,161,162,163,164,165,166,167,168,169,170,171,172,173,174,175,176,177,178,179,180,181] Cw D8 ?_ ?_ Sub.refl ?_
 ·exact⟨Nat.zero_le _,YI_0 hq0 hq1 (by omega)⟩
 ·(try dsimp only);exact(Wk.cons Ch Wk.nil)
 rintro⟨i,y⟩ ⟨hi,hy⟩ K9 K9
 simp only [List.cons_append,List.nil_append]
 refine A7 fun _ K10=>A4 fun _ K11=>wM I I<|wM I I<|A2 (Al I I cU (hA:=hV3)) I ?_
 refine A2 (An I I) I<|A3 K11<|AH I (fun hc1=>?_) (fun hc1=>?_)
 ·try simp only [dz] at hc1
  obtain⟨a,ha⟩: ∃a,qs[i]? =some a:=⟨_,List.getElem?_eq_getElem (by omega)⟩
  have haQ:=hQ a (List.mem_of_getElem? ha)
  refine AA<|A5 K10<|A7 fun _ K12=>AG<|A4 fun _ K13=>wM I I<|wM I I<|A2 (AO i I I cU ew (hA:=hV3) (hi:=by omega)) I ?_
  refine A2 (A1 I Eb) I<|A2 (A1 I CG) I<|A2 (Af (f:=Cj) (i:=i) (j:=26) (y:=a) I Bg (hA:=hV3) (hl:=ha) (hv:=Jn a)) I ?_
  refine A2 (AL (v:=.int .i64 ((a.r.b.l.length:Nat):Int)) (BA I I BQ) I) I<|A2 (D5 (j:=5000) I I) I ?_
  refine wM I I<|Ae 54 I (fun hg14=>?_) (fun hg14=>?_)
  ·try simp only [dz] at hg14
   refine wM I I<|wM I I<|wM I I<|A2 (AO i I I cU ew (hA:=hV3) (hi:=by omega)) I ?_
   refine A2 (BG (f:=Cj) (i:=i) (y:=a) I cV (hA:=hV3) (hl:=ha)) I ?_
   refine AB (AE cf5 I (hs:=Ph (kb:=b39) (m:=(kvs1.length+kvs2.length)) (n:=i) (y:=y) (a:=a) (X:=X) hy (by omega) haQ (by omega))) I I I ?_
   rintro _ _ ⟨⟨y2,hy2⟩,rfl,hA⟩
   simp only [ca] at hA
   subst hA
   refine A2 (Au I) I<|A2 (AC I I) I<|A3 K13<|AM I<|AA<|A5 K12<|AD<|wM I I<|A2 (AN (j:=1) I I) I<|wA I I<|AW<|Az (K9 ⟨i+1,y2⟩ (⟨by (try dsimp only);omega,hy2⟩) (by (try dsimp only);omega))
  try simp only [dz] at hg14
  refine wK I<|wK I<|wK I<|wK I<|wK I<|wK I<|wK I<|A2 (A8 I I) I<|A3 K13<|AM I<|AA<|A5 K12<|AD<|wM I I<|A2 (AN (j:=1) I I) I ?_
  refine wA I I<|AW<|Az (K9 ⟨i+1,y⟩ (⟨by (try dsimp only);omega,hy.grow⟩) (by (try dsimp only);omega))
 try simp only [dz] at hc1
 obtain rfl:i=qs.length:=by omega
 refine Aj<|A5 K7<|A7 fun _ K15=>A4 fun _ K16=>wA rfl rfl<|A3 K16<|AG<|Ak (σ:=Nat × YS) (fun ⟨k,y⟩=> [(15,.int .i64 ((k:Nat):Int))]) (fun ⟨k,y⟩=> [Jo b39 y]) (fun ⟨k,y⟩=>k<=2/\YI (kvs1.length+kvs2.length) (qs.length+2*k) y) (fun ⟨k,y⟩=>2 -k) ⟨0,y⟩ [13,16,17,79,80,81,82,83,84,85,86,87,88,89,90,91,92,93,94,95,96,97,98,99,100,101,102,103,104,105,106,107,108,109,110,111,112,113,114,115,116,117,118,119,120,121,122,123,124,125,126,127,128,129,130,131,132,133,134,135,136,137,138,139,140,141,142,143,144,145,146,147,148,149,150,151,152,153,154,155,156,157,158,159,160,161,162,163,164,165,166,167,168,169,170,171,172,173,174,175,176,177,178,179,180,181] Cw D8 ?_ ?_ Sub.refl ?_
 ·exact⟨Nat.zero_le _,hy⟩
 ·(try dsimp only);exact(Wk.cons Ch Wk.nil)
 rintro⟨k,y⟩ ⟨hk,hy⟩ K17 K17
 simp only [List.cons_append,List.nil_append]
 refine A7 fun _ K18=>A4 fun _ K19=>wM I I<|A2 (An (j:=2) I I) I<|A3 K19<|AH I (fun hc3=>?_) (fun hc3=>?_)
 ·try simp only [dz] at hc3
  refine AA<|A5 K18<|A7 fun _ K20=>AG<|A4 fun _ K21=>wM I I<|wM I I<|A2 (AL (v:=.agg (Cj (gG k 4)).toArray) (Ah bV I (hf:=RY _ _)) I) I ?_
  refine AB (AE cf5 I (hs:=Ph (kb:=b39) (m:=(kvs1.length+kvs2.length)) (n:=qs.length+2*k) (y:=y) (a:=gG k 4) (X:=X) hy (by omega) F3 (Nat.zero_le _))) I I I ?_
  rintro _ _ ⟨⟨y3,hy3⟩,rfl,hA⟩
  simp only [ca] at hA
  subst hA
  refine A2 (Au I) I<|wM I I<|wM I I<|wM I I<|A2 (AL (v:=.agg (Cj (gG k 6)).toArray) (Ah bV I (hf:=RY _ _)) I) I ?_
  refine AB (AE cf5 I (hs:=Ph (kb:=b39) (m:=(kvs1.length+kvs2.length)) (n:=qs.length+2*k+1) (y:=y3) (a:=gG k 6) (X:=X) hy3 (by omega) F3 (Nat.zero_le _))) I I I ?_
  rintro _ _ ⟨⟨y4,hy4⟩,rfl,hA⟩
  simp only [ca] at hA
  subst hA
  refine A2 (Au I) I<|A2 (A8 I I) I<|A3 K21<|AM I<|AA<|A5 K20<|AD<|wM I I<|A2 (AN (j:=1) I I) I<|wA I I<|AW<|Az (K17 ⟨k+1,y4⟩ (⟨by (try dsimp only);omega,hy4⟩) (by (try dsimp only);omega))
 try simp only [dz] at hc3
 obtain rfl:k=2:=by omega
 refine gK y fun c0 c1 c2 c3 hc4=>?_
 have hcs:y.cells= [c0,c1,c2,c3,sl y.ga y.gs.length y.gc,sl y.wa y.ws.length y.wc,sl y.ha y.hs.length y.hc,sl y.ma (y.ms.map MV.p).length y.mc,sl y.ia y.is.length y.ic,sl y.za y.zs.length y.zc]:=by unfold YS.cells YS.tail;rw [hc4];rfl
 have hgl:=hy.gl
 have hwl:=hy.wl
 have hhl:=hy.hl
 have hil:=hy.il
 have hfew:=hy.few (by omega)
 have hawf:=eG (fun s hs=>(hy.gw s hs).1)
 refine Bu (fun w h=>B1 (a:=y.ha) (cap:=y.hc) (e:=1) (T:=45) (f:=Hj) (l:=y.hs) Bf h) (fun hvHf=>?_)
 have hvH:Sv [Aa y.ha y.hc 1 45 Hj y.hs] (sl y.ha y.hs.length y.hc) 1 Hj y.hs (y.ha.map fun g=>⟨g,0,none⟩) y.hc:=BM RD hvHf.1 hvHf.2
 refine Bu (fun w h=>B1 (a:=y.ia) (cap:=y.ic) (e:=1) (T:=79) (f:=No) (l:=y.is) Bf h) (fun hvIf=>?_)
 have hvI:Sv [Aa y.ia y.ic 1 79 No y.is] (sl y.ia y.is.length y.ic) 1 No y.is (y.ia.map fun g=>⟨g,0,none⟩) y.ic:=BM bk hvIf.1 hvIf.2
 refine Bu (fun w h=>B1 (a:=y.ga) (cap:=y.gc) (e:=3) (T:=24) (f:=GG) (l:=y.gs) Bf h) (fun hvGf=>?_)
 have hvG:Sv [Aa y.ga y.gc 3 24 GG y.gs] (sl y.ga y.gs.length y.gc) 3 GG y.gs (y.ga.map fun g=>⟨g,0,none⟩) y.gc:=BM encGS hvGf.1 hvGf.2
 refine Bu (fun w h=>B1 (a:=y.wa) (cap:=y.wc) (e:=3) (T:=24) (f:=GG) (l:=y.ws) Bf h) (fun hvWf=>?_)
 have hvW:Sv [Aa y.wa y.wc 3 24 GG y.ws] (sl y.wa y.ws.length y.wc) 3 GG y.ws (y.wa.map fun g=>⟨g,0,none⟩) y.wc:=BM encGS hvWf.1 hvWf.2
 refine Aj<|A5 K15<|A7 fun _ K22=>A7 fun _ K23=>BC CE [cl b39 38 [c0,c1,c2,c3,sl y.ga y.gs.length y.gc,sl y.wa y.ws.length y.wc,sl y.ha y.hs.length y.hc,sl y.ma (y.ms.map MV.p).length y.mc,sl y.ia y.is.length y.ic,sl y.za y.zs.length y.zc]] (fun i=>([2,2,2,2,2,2,2,2,1,2,2,2,2,2,2,1,2,2,2,2,2,2,2,1,2,2,2,2,2,2,2,2,2,2,2,2,2,2,2]:List Nat).getD i 0) ?_
 refine jM 0 I I I hp<|jP 1 I (A9 I) I hp<|jP 2 I (A1 I PM) I hp<|jT 3 I (A6 I Vr (v:=sl y.ha y.hs.length y.hc)) I hp AQ<|jM 4 I I I hp<|jP 5 I (A9 I) I hp<|jP 6 I (A1 I Sc) I hp<|jT 7 I (A6 I Vr (v:=sl y.ma (y.ms.map MV.p).length y.mc)) I hp AQ<|jO 8<|B7 I (AE cf6 I (hs:=WS (y:=y) hy.hm (by omega) (fun p hp=>Nat.le_trans (hy.hb p hp) (by decide)))) I I I I ?_
 rintro _ _ ⟨⟨⟩,rfl,hA⟩
 simp only [ca] at hA
 subst hA
 refine⟨(fun _=>Bh),?_⟩
 refine jP 9 I (Au I) I hp<|jM 10 I I I hp<|jM 11 I I I hp<|jP 12 I (A9 I) I hp<|jP 13 I (A1 I PM) I hp<|jT 14 I (A6 I Vr (v:=sl y.ha y.hs.length y.hc)) I hp AQ<|jO 15<|B7 I (AE cf7 I (hs:=OR (X:=Aa y.ha y.hc 1 45 Hj y.hs) (ps:=y.hs) (hS:=hvH) (hn:=by omega) (hb:=fun p hp=>Nat.le_trans (hy.hb p hp) (by decide)))) I I I I ?_
 rintro _ _ ⟨⟨⟩,rfl,hA⟩
 simp only [ca] at hA
 subst hA
 refine⟨(fun _=>Bh),?_⟩
 refine jP 16 I (Au I) I hp<|jP 17 I (A8 I I) I hp<|jM 18 I I I hp<|jM 19 I I I hp<|jP 20 I (A9 I) I hp<|jP 21 I (A1 I Sb) I hp<|jT 22 I (A6 I cX (v:=sl y.ia y.is.length y.ic)) I hp AQ<|jO 23<|B7 I (AE aS I (hs:=VM (X:=Aa y.ia y.ic 1 79 No y.is) (ps:=y.is) (hS:=hvI) (hn:=by omega) (hb:=fun p hp=>by have:=hy.ib p hp;omega))) I I I I ?_
 rintro _ _ ⟨⟨⟩,rfl,hA⟩
 simp only [ca] at hA
 subst hA
 refine⟨(fun _=>Bh),?_⟩
 refine jP 24 I (Au I) I hp<|jP 25 I (A8 I I) I hp<|jM 26 I I I hp<|jM 27 I I I hp<|jP 28 I (A9 I) I hp<|jP 29 I (A1 I Kw) I hp<|jT 30 I (A6 I Q1 (v:=sl y.ga y.gs.length y.gc)) I hp AQ<|jP 31 I (AL (v:=.int .i64 ((y.gs.length:Nat):Int)) (BA I I GM) I) I hp<|jM 32 I I I hp<|jP 33 I (A9 I) I hp<|jP 34 I (A1 I PO) I hp<|jT 35 I (A6 I Q1 (v:=sl y.wa y.ws.length y.wc)) I hp AQ<|jP 36 I (AL (v:=.int .i64 ((y.ws.length:Nat):Int)) (BA I I GM) I) I hp<|jP 37 I (AL (v:=.bool false) (Bj I I) (by simp;omega)) I hp ?_
 refine jP 38 I (A8 I I) I hp<|jD<|A5 K23<|AM I<|AA<|A5 K22<|A7 fun _ K24=>A4 fun _ K25=>wA I I<|A3 K25<|AG<|Ak (σ:=Nat) (fun i2=> [(16,.int .i64 ((i2:Nat):Int))]) (fun i2=> []) (fun i2=>i2<=y.gs.length) (fun i2=>y.gs.length -i2) (0) [13,17,143,144,145,146,147,148,149,150,151,152,153,154,155,156,157,158,159,160,161,162,163,164,165,166,167,168,169,170,171,172,173,174,175,176,177,178,179,180,181] Cw D8 ?_ ?_ Sub.refl ?_
 ·exact Nat.zero_le _
 ·(try dsimp only);exact(Wk.cons Ch Wk.nil)
 rintro i2 hi2 K26 K26
 simp only [List.cons_append,List.nil_append]
 refine A7 fun _ K27=>A4 fun _ K28=>wM I I<|wM I I<|A2 (A9 I) I<|A2 (A1 I Kw) I<|A2 (A6 I Q1 (v:=sl y.ga y.gs.length y.gc)) I<|A2 (AL (v:=.int .i64 ((y.gs.length:Nat):Int)) (BA I I GM) I) I<|A2 (An I I) I<|A3 K28<|AH I (fun hc6=>?_) (fun hc6=>?_)
 ·try simp only [dz] at hc6
  obtain⟨s,hs⟩: ∃s,y.gs[i2]? =some s:=⟨_,List.getElem?_eq_getElem (by omega)⟩
  obtain⟨t,ht⟩: ∃t,y.ws[i2]? =some t:=⟨_,List.getElem?_eq_getElem (by omega)⟩
  have hkey:s.key=t.key:=by have q:=congrArg (fun l=>l[i2]?) hy.gm;simp only [List.getElem?_map,hs,ht,Option.map_some,Option.some.injEq] at q;exact q
  have hsw:=hy.gw s (List.mem_of_getElem? hs)
  refine AA<|A5 K27<|A7 fun _ K29=>AG<|A7 fun _ K30=>BC CE [cl b39 38 [c0,c1,c2,c3,sl y.ga y.gs.length y.gc,sl y.wa y.ws.length y.wc,sl y.ha y.hs.length y.hc,sl y.ma (y.ms.map MV.p).length y.mc,sl y.ia y.is.length y.ic,sl y.za y.zs.length y.zc],Aa y.ga y.gc 3 24 GG y.gs,Aa y.wa y.wc 3 24 GG y.ws] (fun i=>([2,2,2,2,2,2,2,2,2,2,2,2,2,2,1,2]:List Nat).getD i 0) ?_
  refine jM 0 I I I hp<|jP 1 I (A9 I) I hp<|jP 2 I (A1 I Kw) I hp<|jT 3 I (A6 I Q1 (v:=sl y.ga y.gs.length y.gc)) I hp AQ<|jM 4 I I I hp<|jP 5 I (AO i2 I I GM Gx (hA:=hvG) (hi:=by omega)) I hp ?_
  refine jT 6 I (BG (f:=GG) (i:=i2) (y:=s) I Fv (hA:=hvG) (hl:=hs)) I hp AQ ?_
  refine jM 7 I I I hp<|jP 8 I (A9 I) I hp<|jP 9 I (A1 I PO) I hp<|jT 10 I (A6 I Q1 (v:=sl y.wa y.ws.length y.wc)) I hp AQ<|jM 11 I I I hp<|jP 12 I (AO i2 I I GM Gx (hA:=hvW) (hi:=by omega)) I hp ?_
  refine jT 13 I (BG (f:=GG) (i:=i2) (y:=t) I Fv (hA:=hvW) (hl:=ht)) I hp AQ ?_
  refine jO 14<|B7 I (AE gh I (hs:=WR hs ht hkey hsw.1 (by have:=hsw.2;omega))) I I I I ?_
  rintro _ _ ⟨⟨⟩,rfl,hA⟩
  simp only [ca] at hA
  subst hA
  refine⟨(fun _=>Bh),?_⟩
  refine jP 15 I (Au I) I hp<|jD<|A5 K30<|AM I<|AA<|A5 K29<|AD<|wM I I<|A2 (AN (j:=1) I I) I<|wA I I<|AW<|Az (K26 (i2+1) (by omega) (by omega))
 try simp only [dz] at hc6
 obtain rfl:i2=y.gs.length:=by omega
 refine Aj<|A5 K24<|A7 fun _ K31=>A4 fun _ K32=>wM I I<|A2 (A9 I) I<|A2 (A1 I Kw) I<|A2 (A6 I Q1 (v:=sl y.ga y.gs.length y.gc)) I<|AB (AE cf10 I (hs:=VK (X:=Aa y.ga y.gc 3 24 GG y.gs) (gs:=y.gs) hvG (by omega) hfew (fun s hs=>by have:=(hy.gw s hs).2;omega) hawf.1 hawf.2)) I I I ?_
 rintro _ _ ⟨⟨⟩,rfl,hA⟩
 simp only [ca] at hA
 subst hA
 refine A2 (Au I) I<|A3 K32<|AM I<|AA<|A5 K31<|A7 fun _ K33=>A4 fun _ K34=>wA I I<|A3 K34<|AG<|Ak (σ:=Nat) (fun k3=> [(17,.int .i64 ((k3:Nat):Int))]) (fun k3=> [DG y.q0,DG y.q1]) (fun k3=>k3<=2) (fun k3=>2 -k3) (0) [13] Cw D8 ?_ ?_ Sub.refl ?_
 ·exact Nat.zero_le _
 ·(try dsimp only);exact(Wk.cons Ch Wk.nil)
 rintro k3 hk3 K35 K35
 simp only [List.cons_append,List.nil_append]
 refine A7 fun _ K36=>A4 fun _ K37=>wM I I<|A2 (An (j:=2) I I) I<|A3 K37<|AH I (fun hc9=>?_) (fun hc9=>?_)
 ·try simp only [dz] at hc9
  rcases hxk:y.q k3 with _|x
  ·skip
   refine AA<|A5 K36<|A7 fun _ K38=>AG<|A7 fun _ K39=>BC CE [cl b39 38 [c0,c1,c2,c3,sl y.ga y.gs.length y.gc,sl y.wa y.ws.length y.wc,sl y.ha y.hs.length y.hc,sl y.ma (y.ms.map MV.p).length y.mc,sl y.ia y.is.length y.ic,sl y.za y.zs.length y.zc]] (fun i=>([2,2,2,2,2,2,2,2,2,2,2,2,2,2,2,2,1,2,2,2,2,2,2,2,2,2,1,2,2]:List Nat).getD i 0) ?_
   refine jM 0 I I I hp<|jM 1 I I I hp<|jP 2 I (A9 I) I hp<|jP 3 I (A1 I FR) I hp<|jP 4 I (Cu k3 I I Jt F6 I (by omega)) I hp ?_
   refine jP 5 I (A1 I Dh) I hp<|jT 6 I (A6 I GN (v:=.pointer none) (hi:=by have z:=Sp hcs (k:=k3) (by omega);rw [hxk] at z;exact z)) I hp AQ ?_
   refine jP 7 I (NW I I IA) I hp ?_
   refine jM 8 I I I hp<|jK 9 I I hp<|jK 10 I I hp<|jK 11 I I hp<|jK 12 I I hp<|jK 13 I I hp<|jK 14 I I hp<|jK 15 I I hp<|jK 17 I I hp<|jK 18 I I hp<|jK 19 I I hp<|jK 20 I I hp<|jK 21 I I hp<|jK 22 I I hp<|jK 23 I I hp ?_
   refine jK 24 I I hp<|jK 25 I I hp<|jO 16<|CN I I I I (fun _=>Bh) ?_
   refine jO 26<|CN I I I I (fun _=>Bh) ?_
   refine jK 27 I I hp<|jP 28 I (A8 I I) I hp<|jD<|A5 K39<|AM I<|AA<|A5 K38<|AD<|wM I I<|A2 (AN (j:=1) I I) I<|wA I I<|AW<|Az (K35 (k3+1) (by omega) (by omega))
  skip
  refine gP (k:=k3) (by omega) hxk fun kms ka kc hkq=>?_
  obtain⟨hwx,hxs⟩:=hy.w hxk
  have hkl:kms.length=x.s.l.length:=by have q:=congrArg List.length hkq;rw [List.length_map] at q;exact q
  refine Bu (fun w h=>FA (kms:=kms) (ka:=ka) (kc:=kc) Bf Bf h) (fun hov=>?_)
  obtain⟨hoV,hoO⟩:=hov
  have hoe:(kms.map KM.kv).map KV.kp=x.s.l:=by rw [CO];exact hkq
  refine AA<|A5 K36<|A7 fun _ K40=>AG<|A7 fun _ K41=>BC CE [cl b39 38 [c0,c1,c2,c3,sl y.ga y.gs.length y.gc,sl y.wa y.ws.length y.wc,sl y.ha y.hs.length y.hc,sl y.ma (y.ms.map MV.p).length y.mc,sl y.ia y.is.length y.ic,sl y.za y.zs.length y.zc],cl x.p 24 [.int .i64 x.room,.int .i64 x.s.tick,sl ka kms.length kc]] (fun i=>([2,2,2,2,2,2,2,2,2,2,2,2,2,2,2,2,1,2,2,2,2,2,2,2,2,2,1,2,2]:List Nat).getD i 0) ?_
  refine jM 0 I I I hp<|jM 1 I I I hp<|jP 2 I (A9 I) I hp<|jP 3 I (A1 I FR) I hp<|jP 4 I (Cu k3 I I Jt F6 I (by omega)) I hp ?_
  refine jP 5 I (A1 I Dh) I hp<|jT 6 I (A6 I GN (v:=.pointer (some ⟨x.b,0,none⟩)) (hi:=by have z:=Sp hcs (k:=k3) (by omega);rw [hxk] at z;exact z)) I hp AQ ?_
  refine jP 7 I (NW I I IA) I hp ?_
  refine jM 8 I I I hp<|jM 9 I I I hp<|jM 10 I I I hp<|jP 11 I (A9 I) I hp<|jP 12 I (A1 I FR) I hp<|jP 13 I (Cu k3 I I Jt F6 I (by omega)) I hp ?_
  refine jP 14 I (A1 I Dh) I hp<|jT 15 I (A6 I GN (v:=.pointer (some ⟨x.b,0,none⟩)) (hi:=by have z:=Sp hcs (k:=k3) (by omega);rw [hxk] at z;exact z)) I hp AQ ?_
  refine jM 17 I I I hp<|jM 18 I I I hp<|jP 19 I (A9 I) I hp<|jP 20 I (A1 I FR) I hp<|jP 21 I (Cu k3 I I Jt F6 I (by omega)) I hp ?_
  refine jP 22 I (A1 I Ev) I hp<|jT 23 I (A6 I JJ (v:=.pointer (some ⟨x.p,0,none⟩)) (hi:=by have z:=eB hcs (k:=k3) (by omega);rw [hxk] at z;exact z)) I hp AQ ?_
  refine jP 24 I (A9 I) I hp<|jT 25 I (AI (vs:= [.int .i64 x.room,.int .i64 x.s.tick,sl ka kms.length kc]) I Fv) I hp AQ<|jO 16<|B7 I (AE eA I (hs:=Kk (b:=x.b) (room:=x.room) (s:=x.s) hwx (by omega))) I I I I ?_
  rintro _ _ ⟨⟨⟨kms4,a4,c4⟩,hk4⟩,rfl,hA⟩
  simp only [ca] at hA
  subst hA
  refine⟨(fun _=>Bh),?_⟩
  refine jO 26<|B7 I (AE gh I (hs:=WV (room:=x.room) (tick:=x.s.tick) (kms:=kms4) (kms2:=kms) (ka:=a4) (kc:=c4) (ka2:=ka) (kc2:=kc) (hk4.trans hkq.symm) (by rw [hk4];exact hwx) (by have q:=congrArg List.length hk4;rw [List.length_map] at q;(try dsimp only at q);omega))) I I I I ?_
  rintro _ _ ⟨⟨⟩,rfl,hA⟩
  simp only [ca] at hA
  subst hA
  refine⟨(fun _=>Bh),?_⟩
  refine jP 27 I (Au I) I hp<|jP 28 I (AC I I) I hp<|jD<|A5 K41<|AM I<|AA<|A5 K40<|AD<|wM I I<|A2 (AN (j:=1) I I) I<|wA I I<|AW<|gU (k:=k3) (by omega) hxk hkq ?_
  refine Az (K35 (k3+1) (by omega) (by omega))
 try simp only [dz] at hc9
 obtain rfl:k3=2:=by omega
 refine Aj<|A5 K33<|A4 fun _ K42=>wA I I<|A3 K42<|AK ?_
 exact hret.gf () (BR rfl rfl)
end Go.Proofs.YtoakfknnaiapiaaGreat
namespace Go.Proofs.YtoakfknnaiapiaaGreat
open Go.RowKit Go.SL Go.ShM Go.SvM
set_option maxHeartbeats 1000000
set_option maxRecDepth 20000
set_option linter.all false

theorem Y4:LX Tryz.prog 10 24=some [.int .i64,.int .i64,.slice 83]:=by kernel_rfl
theorem Y1:LX Tryz.prog 9 83=some [.ints .u8 16,.int .i64,.slice 5,.slice 44]:=by kernel_rfl
theorem Xy:Tryz.prog.cellsOf 83=19:=by kernel_rfl
theorem Y2:LX Tryz.prog 9 5=some [.int .u8]:=by kernel_rfl
theorem Xz:Tryz.prog.cellsOf 5=1:=by kernel_rfl
theorem Y3:LX Tryz.prog 9 44=some [.int .u32,.int .i64]:=by kernel_rfl
theorem Y0:Tryz.prog.cellsOf 44=2:=by kernel_rfl
theorem dh:LX Tryz.prog 10 25=some [.slice 49]:=by kernel_rfl
theorem df:LX Tryz.prog 9 49=some [.int .i64,.int .i64,.int .i64,.int .i64,.int .u8,.ints .u8 16,.int .i64,.int .i64,.int .i64,.int .u32,.int .i64,.slice 5]:=by kernel_rfl
theorem db:Tryz.prog.cellsOf 49=27:=by kernel_rfl
end Go.Proofs.YtoakfknnaiapiaaGreat
namespace Go.Proofs.YtoakfknnaiapiaaGreat
open Go.RowKit Go.SL Go.ChangeShapes Go.WideShapes Go.ChangeAt
set_option maxHeartbeats 1000000
set_option maxRecDepth 20000
set_option linter.all false

namespace bulks
theorem cn{H:Type}(d:DataW H):1<=Rows.uptoBulk d:=by
 cases d with
 |lit l=>cases l <;>simp [Rows.uptoBulk]
 |_=>simp [Rows.uptoBulk]
theorem part_le{H:Type}{d:DataW H}{l:List (DataW H)}(h:d∈l):Rows.uptoBulk d<=Rows.uptoBulkAll l:=by
 induction l with
 |nil=>cases h
 |cons x r ih=>
  simp only [Rows.uptoBulkAll]
  rcases List.mem_cons.1 h with e|e
  ·subst e;omega
  ·have:=ih e;omega
theorem length_le{H:Type}(l:List (DataW H)):l.length<=Rows.uptoBulkAll l:=by
 induction l with
 |nil=>simp
 |cons x r ih=>have:=cn x;simp only [Rows.uptoBulkAll,List.length_cons];omega
theorem bound{H:Type}{l:List (DataW H)}(hk:Rows.uptoSmall H l=true):Rows.uptoBulkAll l<=1048576:=of_decide_eq_true hk
theorem slice{H:Type}{d:DataW H}{l:List (DataW H)}(hk:Rows.uptoSmall H l=true)(hm:d∈l): ∀ds rs,d= .slice ds rs ->ds.length<=1048576:=by
 rintro ds rs rfl
 have h1:=part_le hm
 have h2:=bound hk
 have h3:=length_le ds
 simp only [Rows.uptoBulk] at h1
 omega
end bulks
theorem ct{H:Type} :Meas (H:=H) Rows.uptoBulk where
 agg xs x h:=by have:=bulks.part_le h;simp only [Rows.uptoBulk];omega
 len ds rs:=by have:=bulks.length_le ds;simp only [Rows.uptoBulk];omega
 el ds rs d h:=by have:=bulks.part_le h;simp only [Rows.uptoBulk];omega
 str s:=by simp [Rows.uptoBulk]
theorem own0:ownKnob Tryz.prog.godebug=none:=by kernel_rfl
theorem bZ:laidOutB Tryz.prog=true:=by kernel_rfl

def fQ:List Char:=Char.ofNat 104::Char.ofNat 97::Char.ofNat 114::Char.ofNat 110::Char.ofNat 101::Char.ofNat 115::Char.ofNat 115::Char.ofNat 32::Char.ofNat 99::Char.ofNat 50::Char.ofNat 52::Char.ofNat 98::Char.ofNat 49::Char.ofNat 50::Char.ofNat 55::Char.ofNat 57::Char.ofNat 56::Char.ofNat 57::Char.ofNat 49::Char.ofNat 49::Char.ofNat 102::Char.ofNat 55::Char.ofNat 49::Char.ofNat 97::Char.ofNat 54::Char.ofNat 102::Char.ofNat 99::Char.ofNat 99::Char.ofNat 101::Char.ofNat 52::Char.ofNat 54::Char.ofNat 51::Char.ofNat 99::Char.ofNat 50::Char.ofNat 55::Char.ofNat 98::Char.ofNat 56::Char.ofNat 101::Char.ofNat 97::Char.ofNat 54::Char.ofNat 57::Char.ofNat 48::Char.ofNat 48::Char.ofNat 100::Char.ofNat 54::Char.ofNat 57::Char.ofNat 57::Char.ofNat 55::Char.ofNat 51::Char.ofNat 98::Char.ofNat 50::Char.ofNat 49::Char.ofNat 54::Char.ofNat 52::Char.ofNat 57::Char.ofNat 48::Char.ofNat 52::Char.ofNat 51::Char.ofNat 100::Char.ofNat 102::Char.ofNat 48::Char.ofNat 53::Char.ofNat 56::Char.ofNat 50::Char.ofNat 48::Char.ofNat 98::Char.ofNat 100::Char.ofNat 51::Char.ofNat 51::Char.ofNat 57::Char.ofNat 54::Char.ofNat 52::Char.ofNat 32::Char.ofNat 99::Char.ofNat 117::Char.ofNat 116::Char.ofNat 32::Char.ofNat 97::Char.ofNat 116::Char.ofNat 32::Char.ofNat 115::Char.ofNat 116::Char.ofNat 114::Char.ofNat 111::Char.ofNat 110::Char.ofNat 103::Char.ofNat 114::Char.ofNat 111::Char.ofNat 111::Char.ofNat 109::Char.ofNat 47::Char.ofNat 115::Char.ofNat 116::Char.ofNat 114::Char.ofNat 111::Char.ofNat 110::Char.ofNat 103::Char.ofNat 114::Char.ofNat 111::Char.ofNat 111::Char.ofNat 109::Char.ofNat 108::Char.ofNat 97::Char.ofNat 119::Char.ofNat 49::Char.ofNat 57::Char.ofNat 46::Char.ofNat 83::Char.ofNat 101::Char.ofNat 114::Char.ofNat 118::Char.ofNat 101::Char.ofNat 114::Char.ofNat 80::Char.ofNat 108::Char.ofNat 97::Char.ofNat 121::Char.ofNat 115:: []
theorem fR:Tryz.prog.initOrder= "harness c24b12798911f71a6fcce463c27b8ea6900d69973b21649043df05820bd33964 cut at strongroom/strongroomlaw19.ServerPlays" :=by kernel_rfl
theorem TZ:Tryz.prog.initOrder.toList=fQ:=by rw [fR];exact String.toList_ofList
theorem Sa:Tryz.prog.headLifts= []:=by unfold Program.headLifts;rw [TZ];kernel_rfl
theorem Uv:Tryz.prog.mayEnter=true:=by
 refine Xj TZ fun Q hQ h1 h2 h3=>?_
 unfold Program.mayEnter
 rw [hQ]
 simp only [h1,h2,h3]
 kernel_rfl
theorem cv:Tryz.prog.liftsFinal=Rows.serverPlaysUptoRow.lifted:=by unfold Program.liftsFinal Program.headLifts;rw [TZ];kernel_rfl
theorem fL:Tryz.prog.make=some Rows.serverPlaysUptoRow.make:=by
 refine Za TZ fun Q hQ hh=>?_
 unfold Program.make
 rw [hQ,hh,Sa]
 kernel_rfl
theorem cZ:Tryz.prog.stops= []:=by kernel_rfl
theorem cz:Tryz.prog.stopKnobs= []:=by kernel_rfl
theorem dE:Tryz.prog.stopsHeard=true:=by kernel_rfl
theorem SH:Tryz.prog.plainKeys=Rows.serverPlaysUptoRow.plainKeys:=by kernel_rfl
theorem ce:mapsRowed Tryz.prog=true:=by kernel_rfl
end Go.Proofs.YtoakfknnaiapiaaGreat
