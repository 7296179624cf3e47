/-
  Contracts of functions that the claim reaches, or the logic and the plain laws that they rest on, or the row over them. (Conditions: none beyond the statement.)
-/
import Derived.Test.YtoakfknnaiapiaaGreatKAF
import Derived.Test.YtoakfknnaiapiaaGreatKAE
import Derived.Test.YtoakfknnaiapiaaGreatLibA
import Derived.Test.YtoakfknnaiapiaaGreatLibB
set_option linter.all false
namespace Go.Proofs.YtoakfknnaiapiaaGreat
open Go.RowKit Go.SL Go.ShM Go.SvM
set_option maxHeartbeats 1000000
set_option maxRecDepth 20000
set_option linter.all false

theorem Zb{X:Ao}{v:Value}{kvs:List KV}{ao:Option Addr}{cap:Nat}{room tick:Int}(hS:Sv [X] v 19 EC kvs ao cap)(hOK: ∀k∈kvs,Lh X k)(hn:kvs.length<=100000000)(hlb: ∀k∈kvs,k.ls.l.length<=900000000000)(hroom:0<=room/\room<=1073741824)(hwf:Wf room ⟨tick,(kvs.map KV.kp)⟩):Ct Tryz.prog 15 [(.agg [.int .i64 room,.int .i64 tick,v].toArray)] [X] (fun g: {g:Nat × Nat × List En // g.2.2.map En.e=(kvs.map KV.kp)} =>.tuple #[.pointer (some ⟨g.1.1,0,none⟩),.int .i64 0]) (fun g=> [X,cl g.1.1 90 [.bool true,.int .i64 room,.int .i64 tick,.int .i64 (((Ap g.1.2.2):Nat):Int),.map (some g.1.2.1)],Bs g.1.2.1 By Cc (g.1.2.2.map En.kp),star (Cb 102 5) g.1.2.2]):=by
 refine AY (n:=120) Tryz.func15 I I I fun F w0 Q hret hnorm hp=>?_
 change WC _ _ _ _ _ _ _ (_::F)
 have hpl:(kvs.map KV.kp).length=kvs.length:=List.length_map _
 have htk:0<=tick/\tick<=1099511627776:=hwf.tk
 refine A4 fun _ K1=>AB (Ay (xs:= [.int .i64 room,.int .i64 tick,v]) I I) I I I ?_
 rintro _ _ ⟨b1,rfl,rfl⟩
 refine wA I I<|wA I I<|A3 K1<|A4 fun _ K2=>A2 (A1 I Dx) I<|A2 (A6 I BF) I ?_
 refine AB (AE YD I (hs:=SU (room:=room) hroom)) I I I ?_
 rintro _ _ ⟨⟨s16,m16⟩,rfl,hA⟩
 simp only [ca] at hA
 subst hA
 refine wM I I<|A2 (BE I) I<|A2 (BN I) I<|wA I I<|wA I I<|A3 K2<|A7 fun _ K3=>A4 fun _ K4=>wM I I<|A2 (Bj (i:=0) (j:=0) I I) I ?_
 refine wM I I<|A2 (A1 I Di) I<|A2 (A6 I BF) I ?_
 refine AB (AE aX I (hs:=Nq (n:=tick))) I I I ?_
 rintro _ _ ⟨⟨⟩,rfl,hA⟩
 simp only [ca] at hA
 subst hA
 refine A2 (Au I) I<|A2 (A8 I I) I<|A3 K4<|AH I (fun hc0=>?_) (fun hc0=>?_)
 ·try simp only [dz] at hc0
  omega
 try simp only [dz] at hc0
 have htk:0<=tick/\tick<=1099511627776:=by first|assumption|omega
 refine AA<|A5 K3<|A4 fun _ K5=>wM I I<|A2 (A1 I Di) I<|A2 (A6 I BF) I ?_
 refine A2 (A9 I) I<|A2 (A1 I Ku) I<|AX (Ar I I Fw) I I ?_
 rintro _ _ rfl
 refine A3 K5<|A4 fun _ K6=>AB (AZ JG) I I I ?_
 rintro _ _ ⟨b6,rfl,rfl⟩
 refine A3 K6<|A7 fun _ K7=>A4 fun _ K8=>A2 (A1 I BB) I<|A2 (A6 I CL (v:=v)) I<|A2 (Al I I BV (hA:=hS)) I ?_
 refine wM I I<|A3 K8<|AG ?_
 rw [show cl b6 94 [.int .u8 0,.int .u8 0,.int .u8 0,.int .u8 0,.int .u8 0,.int .u8 0,.int .u8 0,.int .u8 0,.int .u8 0,.int .u8 0,.int .u8 0,.int .u8 0,.int .u8 0,.int .u8 0,.int .u8 0,.int .u8 0,.int .i64 0]=cl b6 94 (Dt (Ha (kvs.map KV.kp) 0)) from rfl]
 refine Ak (σ:=Nat × (List En)) (fun ⟨i,L⟩=> [(35,.int .i64 ((i:Nat):Int))]) (fun ⟨i,L⟩=> [cl b6 94 (Dt (Ha (kvs.map KV.kp) i)),cl s16 90 [.bool true,.int .i64 room,.int .i64 tick,.int .i64 (((Ap L):Nat):Int),.map (some m16)],Bs m16 By Cc (L.map En.kp),star (Cb 102 5) L]) (fun ⟨i,L⟩=>i<=kvs.length/\L.map En.e=(kvs.map KV.kp).take i/\Wf room ⟨tick,(kvs.map KV.kp).take i⟩) (fun ⟨i,L⟩=>kvs.length -i) ⟨0,[]⟩ [1,4,6,33,34,119] Cw D8 ?_ ?_ Sub.refl ?_
 ·exact⟨Nat.zero_le _,rfl,P3 hroom htk⟩
 ·(try dsimp only);exact(Wk.cons Ch Wk.nil)
 rintro⟨i,L⟩ ⟨hi,hLm,hpw⟩ K9 K9
 simp only [List.cons_append,List.nil_append]
 refine A4 fun _ K10=>A2 (An I I) I<|A3 K10<|A7 fun _ K11=>AH I (fun hc1=>?_) (fun hc1=>?_)
 ·try simp only [dz] at hc1
  obtain⟨k,hk⟩: ∃k,kvs[i]? =some k:=⟨_,List.getElem?_eq_getElem (by omega)⟩
  have hkP:(kvs.map KV.kp)[i]? =some k.kp:=by rw [List.getElem?_map,hk];rfl
  have hkO:=hOK k (List.mem_of_getElem? hk)
  have hkl:k.ls.l.length<=900000000000:=hlb k (List.mem_of_getElem? hk)
  obtain⟨hwk,hwp,hwu⟩:=bO hwf hkP
  have hw1:0<=k.num/\k.num<255:=hwk.num
  have hw2:k.b.l.length<=33554432:=hwk.len
  have hcf:0<i ->c9 (Ha (kvs.map KV.kp) i) k.kp.key<0:=fun hi0=>(Sm _ _).2 (hwp.elim (fun q=>absurd q (by omega)) (fun ⟨y,q1,q2⟩=>ZI hi0 q1 q2))
  refine AA<|A5 K11<|A7 fun _ K12=>AG<|A4 fun _ K13=>wM I I<|A2 (AO i I I BV C6 (hA:=hS) (hi:=by omega)) I ?_
  refine A2 (BG (f:=EC) (i:=i) (y:=k) I EM (hA:=hS) (hl:=hk)) I ?_
  refine AB (AZ Ey) I I I ?_
  rintro _ _ ⟨b8,rfl,rfl⟩
  refine wA I I<|AX (AV (ys:=EC k) I I C6 (h1:=by simpa [Value.cells] using encKV.one k) (hv:=by simpa [Value.cells] using encKV.len k) (hr:=by simp [Value.cells])) I I ?_
  rintro _ _ rfl
  refine A3 K13<|A4 fun _ K14=>A2 (A1 I FO) I<|A2 (AI (vs:=k.ix.l.flatMap (eU .u8)) I Cv (hl:=by rw [H8];omega) (hi:=L8 k)) I ?_
  refine A2 (A1 I E4) I<|A2 (A6 I BF (v:=.int .i64 k.num) (hi:=ES k)) I<|A2 (AL (v:=By k.kp.key) (Ah G0 I (hf:=DU k.ix k.num)) I) I<|AB (AZ JG) I I I ?_
  rintro _ _ ⟨b9,rfl,rfl⟩
  refine AX (AV (ys:=Dt k.kp.key) I I Hk (h1:=encK.one _) (hv:=by simpa [Value.cells,By] using Aw k.kp.key) (hr:=by simp [Value.cells,By])) I I ?_
  rintro _ _ rfl
  refine A3 K14<|A7 fun _ K15=>A4 fun _ K16=>A2 (A1 I E4) I<|A2 (A6 I BF (v:=.int .i64 k.num) (hi:=ES k)) I<|AB (AE aW I (hs:=Mo (n:=k.num))) I I I ?_
  rintro _ _ ⟨⟨⟩,rfl,hA⟩
  simp only [ca] at hA
  subst hA
  refine A2 (Au I) I<|wM I I<|Ae 49 I (fun hg17=>?_) (fun hg17=>?_)
  ·try simp only [dz] at hg17
   refine wK I<|wK I<|wK I<|wK I<|A2 (AC I I) I<|wM I I<|wK I<|wK I<|wK I<|wK I<|wK I<|wK I<|A2 (AC I I) I<|wM I I<|wK I ?_
   refine wK I<|wK I<|wK I<|wK I<|wK I<|wK I<|wK I<|A2 (AC I I) I<|A3 K16<|Ad I ?_
   first|omega|(exact absurd hwk.ok (by assumption))|(exfalso;revert hcf;omega)
  try simp only [dz] at hg17
  have hnum:=hg17
  refine A2 (A1 I C4) I<|A2 (A6 I Bg (v:=k.b.v) (hi:=GL k)) I<|A2 (Al I I BQ (hA:=hkO.1)) I ?_
  refine A2 (Bz (j:=33554432) I I) I ?_
  refine A2 (A8 I I) I<|wM I I<|Ae 55 I (fun hg18=>?_) (fun hg18=>?_)
  ·try simp only [dz] at hg18
   refine wK I<|wK I<|wK I<|wK I<|wK I<|wK I<|A2 (AC I I) I<|wM I I<|wK I<|wK I<|wK I<|wK I<|wK I<|wK I<|wK I ?_
   refine wK I<|A2 (AC I I) I<|A3 K16<|Ad I ?_
   first|omega|(exact absurd hwk.ok (by assumption))|(exfalso;revert hcf;omega)
  try simp only [dz] at hg18
  have hlenb:=hg18
  refine A2 (A1 I Ca) I<|A2 (A6 I EP (v:=k.ls.v) (hi:=GE k)) I<|A2 (A1 I Di) I<|A2 (A6 I BF) I ?_
  refine AB (AE fh I (hs:=KF (X:=X) (l:=k.ls.l) (t:=tick) (hS:=hkO.2) (hl:=hkl))) I I I ?_
  rintro _ _ ⟨⟨⟩,rfl,hA⟩
  simp only [ca] at hA
  subst hA
  refine A2 (Au I) I<|A2 (A8 I I) I<|wM I I<|Ae 63 I (fun hg19=>?_) (fun hg19=>?_)
  ·try simp only [dz] at hg19
   refine wK I<|wK I<|wK I<|wK I<|wK I<|wK I<|wK I<|wK I<|A2 (AC I I) I<|A3 K16<|Ad I ?_
   first|omega|(exact absurd hwk.ok (by assumption))|(exfalso;revert hcf;omega)
  try simp only [dz] at hg19
  have hlok:Dk tick k.kp.ls:=hg19
  refine wM I I<|A2 (Bz (j:=0) I I) I ?_
  refine wM I I<|Ae 66 I (fun hg20=>?_) (fun hg20=>?_)
  ·try simp only [dz] at hg20
   refine A2 (AI (vs:=Dt (Ha (kvs.map KV.kp) i)) I Ff (hl:=by rw [Aw];omega) (hi:=by rw [List.drop_zero];exact List.take_of_length_le (Nat.le_of_eq (Aw (Ha (kvs.map KV.kp) i))))) I ?_
   refine A2 (AI (vs:=Dt k.kp.key) I Ff (hl:=by rw [Aw];omega) (hi:=by rw [List.drop_zero];exact List.take_of_length_le (Nat.le_of_eq (Aw k.kp.key)))) I ?_
   refine AB (AE e6 I (hs:=NT (x:=Ha (kvs.map KV.kp) i) (y:=k.kp.key) (QJ hpw) hnum)) I I I ?_
   rintro _ _ ⟨⟨⟩,rfl,hA⟩
   simp only [ca] at hA
   subst hA
   refine A2 (Dm I I) I ?_
   refine A2 (AC I I) I<|A2 (A8 I I) I<|A3 K16<|AH I (fun hc2=>?_) (fun hc2=>?_)
   ·try simp only [dz] at hc2
    first|omega|(exact absurd hwk.ok (by assumption))|(exfalso;revert hcf;omega)
   try simp only [dz] at hc2
   have hpre:i=0\/ ∃y,(kvs.map KV.kp)[i -1]? =some y/\Eh y.key k.kp.key:=by first|exact .inl (by omega)|exact .inr (Ln hkP (by omega) (M9 (by omega)))
   have hkn:k.kp.key ∉ (L.map En.e).map Kp.key:=by rw [hLm];exact M1 hkP (Ho (r:=fun a b:Kp=>Eh a.key b.key) (fun a b=>HG a b) hkP hpw.srt hpre)
   have huL:((Ap L:Nat):Int)<=room:=by rw [Ei,hLm];exact hpw.used
   refine AA<|A5 K15<|A4 fun _ K21=>A2 (AI (vs:=Dt k.kp.key) I Ff (hl:=by rw [Aw];omega) (hi:=by rw [List.drop_zero];exact List.take_of_length_le (Nat.le_of_eq (Aw k.kp.key)))) I ?_
   refine AX (AV (ys:=Dt k.kp.key) I I Hk (hl:=by rw [Aw];exact Nat.le_refl _) (h1:=encK.one _) (hv:=by simpa [Value.cells,By] using Aw k.kp.key) (hr:=by simp [Value.cells,By,Aw])) I I ?_
   rintro _ _ rfl
   refine A3 K21<|A4 fun _ K22=>AB (FY Dn DY) I I I ?_
   rintro _ _ ⟨m74,rfl,rfl⟩
   refine wA I I<|A3 K22<|A7 fun _ K23=>A4 fun _ K24=>A2 (A1 I Ca) I<|A2 (A6 I EP (v:=k.ls.v) (hi:=GE k)) I<|A2 (Al I I Bw (hA:=hkO.2)) I ?_
   refine wM I I<|A3 K24<|AG ?_
   rw [show Bs m74 Dn DY []=Bs m74 Dn DY (k.ls.l.take 0) from rfl]
   refine Ak (σ:=Nat) (fun j=> [(78,.int .i64 ((j:Nat):Int))]) (fun j=> [Bs m74 Dn DY (k.ls.l.take j)]) (fun j=>j<=k.ls.l.length) (fun j=>k.ls.l.length -j) (0) [1,2,3,4,6,7,8,9,10,33,34,35,36,37,38,39,40,41,42,43,44,45,46,47,48,49,50,51,52,53,54,55,56,57,58,59,60,61,62,63,64,65,66,67,68,69,70,71,72,73,74,75,76,77,88,89,90,91,92,93,94,95,96,97,98,99,100,101,102,103,104,105,106,107,108,109,110,111,112,113,114,115,116,117,118,119] Cw D8 ?_ ?_ Sub.refl ?_
   ·exact Nat.zero_le _
   ·(try dsimp only);exact(Wk.cons Ch Wk.nil)
   rintro j hj K25 K25
   simp only [List.cons_append,List.nil_append]
   refine A4 fun _ K26=>A2 (An I I) I<|A3 K26<|A7 fun _ K27=>AH I (fun hc3=>?_) (fun hc3=>?_)
   ·try simp only [dz] at hc3
    obtain⟨y,hy⟩: ∃y,k.ls.l[j]? =some y:=⟨_,List.getElem?_eq_getElem (by omega)⟩
    refine AA<|A5 K27<|A7 fun _ K28=>AG<|A4 fun _ K29=>A2 (AO j I I Bw DD (hA:=hkO.2) (hi:=by omega)) I ?_
    refine A2 (BG (f:=C9) (i:=j) (y:=y) I EE (hA:=hkO.2) (hl:=hy)) I ?_
    refine AB (AZ I9) I I I ?_
    rintro _ _ ⟨b12,rfl,rfl⟩
    refine AX (AV (ys:=C9 y) I I DD (hv:=I) (h1:=encLs.one y) (hr:=I)) I I ?_
    rintro _ _ rfl
    refine A3 K29<|AD<|wM I I<|A2 (A1 I Cf) I<|A2 (A6 I BX (v:=.int .u32 ((y.1.toNat:Nat):Int))) I<|A2 (A1 I Bm) I<|A2 (A6 I BF (v:=.int .i64 y.2)) I<|AX (F5 (vf:=DY) y.2 IT I I I EW) I I ?_
    rintro _ _ rfl
    refine Dl (Bs m74 Dn DY (EQ y.1 y.2 (k.ls.l.take j))) (Bs m74 Dn DY (k.ls.l.take (j+1))) (EH (Iu hy hlok.1)) ?_
    refine AW<|A5 K28<|AD<|A2 (AN (j:=1) I I) I<|wM I I<|AW<|Av (K25 (j+1) (by omega) (by omega))
   try simp only [dz] at hc3
   obtain rfl:j=k.ls.l.length:=by omega
   rw [List.take_length]
   refine Aj<|A5 K23<|A7 fun _ K30=>BC CE [cl s16 90 [.bool true,.int .i64 room,.int .i64 tick,.int .i64 (((Ap L):Nat):Int),.map (some m16)],cl b9 94 (Dt k.kp.key),cl b8 83 (EC k),X] (fun i=>([2,2,2,2,2,2,2,1,2,2,1,1]:List Nat).getD i 0) ?_
   refine jM 0 I I I hp<|jP 1 I (A9 I) I hp<|jP 2 I (A1 I De) I hp<|jT 3 I (A6 I Fg (v:=.map (some m16))) I hp AQ<|jT 4 I (AI (vs:=Dt k.kp.key) I Ff (hl:=by rw [Aw];omega) (hi:=by rw [List.drop_zero];exact List.take_of_length_le (Nat.le_of_eq (Aw k.kp.key)))) I hp AQ ?_
   refine jP 5 I (A1 I C4) I hp<|jT 6 I (A6 I Bg (v:=k.b.v) (hi:=GL k)) I hp AQ<|jM 8 I I I hp<|jO 7<|B7 I (AE NL I (hs:=Ef (X:=X) (l:=k.b.l) (hS:=hkO.1) (by omega))) I I I I ?_
   rintro _ _ ⟨⟨a95,cap95⟩,rfl,hA⟩
   simp only [ca] at hA
   subst hA
   refine⟨(fun _=>AQ),?_⟩
   refine jP 9 I (Ah JZ I) I hp<|jO 10<|B7 I (Ay (xs:= [sl a95 k.b.l.length cap95,.map (some m74)]) I I) I I I I ?_
   rintro _ _ ⟨p98,rfl,rfl⟩
   refine⟨(fun _=>AQ),?_⟩
   refine jO 11<|Cg I (F5 (vf:=Cc) p98 G9 I I I FZ) I I I ?_
   rintro _ _ rfl
   refine⟨(fun _=>AQ),?_⟩
   refine jD<|A5 K30<|A7 fun _ K31=>Am CE (jz [10] 11) ?_
   refine jM 0 I I I hp<|jP 1 I (A9 I) I hp<|jP 2 I (A1 I Df) I hp<|jT 3 I (A6 I BF (v:=.int .i64 (((Ap L):Nat):Int))) I hp AQ<|jP 4 I (A1 I C4) I hp<|jT 5 I (A6 I Bg (v:=k.b.v) (hi:=GL k)) I hp AQ<|jP 6 I (Al I I BQ (hA:=hkO.1)) I hp ?_
   refine jP 7 I (AN I I) I hp<|jP 8 I (A9 I) I hp<|jP 9 I (A1 I Df) I hp<|jO 10<|EN I (Ar I I Fw) I ?_
   rintro _ _ rfl
   refine jD<|A5 K31<|A7 fun _ K32=>Am CE (fun _=>2) ?_
   refine jM 0 I I I hp<|jP 1 I (A9 I) I hp<|jP 2 I (A1 I Df) I hp<|jT 3 I (A6 I BF (v:=.int .i64 (((Ap L+k.b.l.length):Nat):Int))) I hp AQ<|jM 4 I I I hp<|jP 5 I (A9 I) I hp<|jP 6 I (A1 I Jh) I hp<|jT 7 I (A6 I BF) I hp AQ ?_
   refine jP 8 I (DI I I) I hp ?_
   refine jD<|A5 K32<|AH I (fun hc4=>?_) (fun hc4=>?_)
   ·try simp only [dz] at hc4
    first|omega|(have q:=hwu;rw [<-hLm,<-Ei] at q;have q2:k.kp.b.length=k.b.l.length:=rfl;omega)
   try simp only [dz] at hc4
   refine AA<|A5 K12<|AD<|Dl (Bs m16 By Cc (EQ k.kp.key p98 (L.map En.kp))) (Bs m16 By Cc ((L++ [(⟨k.kp,p98,a95,cap95,m74⟩:En)]).map En.kp)) (EH (Jy hkn)) ?_
   refine I1 102 5 k p98 a95 cap95 m74 L ?_
   rw [<-Iv hkP,show Ap L+k.b.l.length=Ap (L++ [(⟨k.kp,p98,a95,cap95,m74⟩:En)]) from by rw [Cs];rfl]
   refine A2 (AN (j:=1) I I) I<|wM I I<|AW<|Av (K9 ⟨i+1,L++ [(⟨k.kp,p98,a95,cap95,m74⟩:En)]⟩ (⟨by (try dsimp only);omega,by(try dsimp only);rw [List.map_append,hLm,BZ hkP];rfl,Lr hkP hpw (ML hnum hlenb hlok) hpre (by rw [<-hLm,<-Ei];show ((Ap L+k.b.l.length:Nat):Int)<=room;omega)⟩) (by (try dsimp only);omega))
  try simp only [dz] at hg20
  refine wK I<|wK I<|wK I<|wK I<|A2 (A8 I I) I<|A2 (A8 I I) I<|A3 K16<|AM I ?_
  have hpre:i=0\/ ∃y,(kvs.map KV.kp)[i -1]? =some y/\Eh y.key k.kp.key:=by first|exact .inl (by omega)|exact .inr (Ln hkP (by omega) (M9 (by omega)))
  have hkn:k.kp.key ∉ (L.map En.e).map Kp.key:=by rw [hLm];exact M1 hkP (Ho (r:=fun a b:Kp=>Eh a.key b.key) (fun a b=>HG a b) hkP hpw.srt hpre)
  have huL:((Ap L:Nat):Int)<=room:=by rw [Ei,hLm];exact hpw.used
  refine AA<|A5 K15<|A4 fun _ K33=>A2 (AI (vs:=Dt k.kp.key) I Ff (hl:=by rw [Aw];omega) (hi:=by rw [List.drop_zero];exact List.take_of_length_le (Nat.le_of_eq (Aw k.kp.key)))) I ?_
  refine AX (AV (ys:=Dt k.kp.key) I I Hk (hl:=by rw [Aw];exact Nat.le_refl _) (h1:=encK.one _) (hv:=by simpa [Value.cells,By] using Aw k.kp.key) (hr:=by simp [Value.cells,By,Aw])) I I ?_
  rintro _ _ rfl
  refine A3 K33<|A4 fun _ K34=>AB (FY Dn DY) I I I ?_
  rintro _ _ ⟨m74,rfl,rfl⟩
  refine wA I I<|A3 K34<|A7 fun _ K35=>A4 fun _ K36=>A2 (A1 I Ca) I<|A2 (A6 I EP (v:=k.ls.v) (hi:=GE k)) I<|A2 (Al I I Bw (hA:=hkO.2)) I ?_
  refine wM I I<|A3 K36<|AG ?_
  rw [show Bs m74 Dn DY []=Bs m74 Dn DY (k.ls.l.take 0) from rfl]
  refine Ak (σ:=Nat) (fun j=> [(78,.int .i64 ((j:Nat):Int))]) (fun j=> [Bs m74 Dn DY (k.ls.l.take j)]) (fun j=>j<=k.ls.l.length) (fun j=>k.ls.l.length -j) (0) [1,2,3,4,6,7,8,9,10,33,34,35,36,37,38,39,40,41,42,43,44,45,46,47,48,49,50,51,52,53,54,55,56,57,58,59,60,61,62,63,64,65,66,67,68,69,70,71,72,73,74,75,76,77,88,89,90,91,92,93,94,95,96,97,98,99,100,101,102,103,104,105,106,107,108,109,110,111,112,113,114,115,116,117,118,119] Cw D8 ?_ ?_ Sub.refl ?_
  ·exact Nat.zero_le _
  ·(try dsimp only);exact(Wk.cons Ch Wk.nil)
  rintro j hj K37 K37
  simp only [List.cons_append,List.nil_append]
  refine A4 fun _ K38=>A2 (An I I) I<|A3 K38<|A7 fun _ K39=>AH I (fun hc3=>?_) (fun hc3=>?_)
  ·try simp only [dz] at hc3
   obtain⟨y,hy⟩: ∃y,k.ls.l[j]? =some y:=⟨_,List.getElem?_eq_getElem (by omega)⟩
   refine AA<|A5 K39<|A7 fun _ K40=>AG<|A4 fun _ K41=>A2 (AO j I I Bw DD (hA:=hkO.2) (hi:=by omega)) I ?_
   refine A2 (BG (f:=C9) (i:=j) (y:=y) I EE (hA:=hkO.2) (hl:=hy)) I ?_
   refine AB (AZ I9) I I I ?_
   rintro _ _ ⟨b12,rfl,rfl⟩
   refine AX (AV (ys:=C9 y) I I DD (hv:=I) (h1:=encLs.one y) (hr:=I)) I I ?_
   rintro _ _ rfl
   refine A3 K41<|AD<|wM I I<|A2 (A1 I Cf) I<|A2 (A6 I BX (v:=.int .u32 ((y.1.toNat:Nat):Int))) I<|A2 (A1 I Bm) I<|A2 (A6 I BF (v:=.int .i64 y.2)) I<|AX (F5 (vf:=DY) y.2 IT I I I EW) I I ?_
   rintro _ _ rfl
   refine Dl (Bs m74 Dn DY (EQ y.1 y.2 (k.ls.l.take j))) (Bs m74 Dn DY (k.ls.l.take (j+1))) (EH (Iu hy hlok.1)) ?_
   refine AW<|A5 K40<|AD<|A2 (AN (j:=1) I I) I<|wM I I<|AW<|Av (K37 (j+1) (by omega) (by omega))
  try simp only [dz] at hc3
  obtain rfl:j=k.ls.l.length:=by omega
  rw [List.take_length]
  refine Aj<|A5 K35<|A7 fun _ K42=>BC CE [cl s16 90 [.bool true,.int .i64 room,.int .i64 tick,.int .i64 (((Ap L):Nat):Int),.map (some m16)],cl b9 94 (Dt k.kp.key),cl b8 83 (EC k),X] (fun i=>([2,2,2,2,2,2,2,1,2,2,1,1]:List Nat).getD i 0) ?_
  refine jM 0 I I I hp<|jP 1 I (A9 I) I hp<|jP 2 I (A1 I De) I hp<|jT 3 I (A6 I Fg (v:=.map (some m16))) I hp AQ<|jT 4 I (AI (vs:=Dt k.kp.key) I Ff (hl:=by rw [Aw];omega) (hi:=by rw [List.drop_zero];exact List.take_of_length_le (Nat.le_of_eq (Aw k.kp.key)))) I hp AQ ?_
  refine jP 5 I (A1 I C4) I hp<|jT 6 I (A6 I Bg (v:=k.b.v) (hi:=GL k)) I hp AQ<|jM 8 I I I hp<|jO 7<|B7 I (AE NL I (hs:=Ef (X:=X) (l:=k.b.l) (hS:=hkO.1) (by omega))) I I I I ?_
  rintro _ _ ⟨⟨a95,cap95⟩,rfl,hA⟩
  simp only [ca] at hA
  subst hA
  refine⟨(fun _=>AQ),?_⟩
  refine jP 9 I (Ah JZ I) I hp<|jO 10<|B7 I (Ay (xs:= [sl a95 k.b.l.length cap95,.map (some m74)]) I I) I I I I ?_
  rintro _ _ ⟨p98,rfl,rfl⟩
  refine⟨(fun _=>AQ),?_⟩
  refine jO 11<|Cg I (F5 (vf:=Cc) p98 G9 I I I FZ) I I I ?_
  rintro _ _ rfl
  refine⟨(fun _=>AQ),?_⟩
  refine jD<|A5 K42<|A7 fun _ K43=>Am CE (jz [10] 11) ?_
  refine jM 0 I I I hp<|jP 1 I (A9 I) I hp<|jP 2 I (A1 I Df) I hp<|jT 3 I (A6 I BF (v:=.int .i64 (((Ap L):Nat):Int))) I hp AQ<|jP 4 I (A1 I C4) I hp<|jT 5 I (A6 I Bg (v:=k.b.v) (hi:=GL k)) I hp AQ<|jP 6 I (Al I I BQ (hA:=hkO.1)) I hp ?_
  refine jP 7 I (AN I I) I hp<|jP 8 I (A9 I) I hp<|jP 9 I (A1 I Df) I hp<|jO 10<|EN I (Ar I I Fw) I ?_
  rintro _ _ rfl
  refine jD<|A5 K43<|A7 fun _ K44=>Am CE (fun _=>2) ?_
  refine jM 0 I I I hp<|jP 1 I (A9 I) I hp<|jP 2 I (A1 I Df) I hp<|jT 3 I (A6 I BF (v:=.int .i64 (((Ap L+k.b.l.length):Nat):Int))) I hp AQ<|jM 4 I I I hp<|jP 5 I (A9 I) I hp<|jP 6 I (A1 I Jh) I hp<|jT 7 I (A6 I BF) I hp AQ ?_
  refine jP 8 I (DI I I) I hp ?_
  refine jD<|A5 K44<|AH I (fun hc4=>?_) (fun hc4=>?_)
  ·try simp only [dz] at hc4
   first|omega|(have q:=hwu;rw [<-hLm,<-Ei] at q;have q2:k.kp.b.length=k.b.l.length:=rfl;omega)
  try simp only [dz] at hc4
  refine AA<|A5 K12<|AD<|Dl (Bs m16 By Cc (EQ k.kp.key p98 (L.map En.kp))) (Bs m16 By Cc ((L++ [(⟨k.kp,p98,a95,cap95,m74⟩:En)]).map En.kp)) (EH (Jy hkn)) ?_
  refine I1 102 5 k p98 a95 cap95 m74 L ?_
  rw [<-Iv hkP,show Ap L+k.b.l.length=Ap (L++ [(⟨k.kp,p98,a95,cap95,m74⟩:En)]) from by rw [Cs];rfl]
  refine A2 (AN (j:=1) I I) I<|wM I I<|AW<|Av (K9 ⟨i+1,L++ [(⟨k.kp,p98,a95,cap95,m74⟩:En)]⟩ (⟨by (try dsimp only);omega,by(try dsimp only);rw [List.map_append,hLm,BZ hkP];rfl,Lr hkP hpw (ML hnum hlenb hlok) hpre (by rw [<-hLm,<-Ei];show ((Ap L+k.b.l.length:Nat):Int)<=room;omega)⟩) (by (try dsimp only);omega))
 try simp only [dz] at hc1
 obtain rfl:i=kvs.length:=by omega
 have hLe:L.map En.e=(kvs.map KV.kp):=by rw [hLm];exact List.take_of_length_le (by omega)
 refine Aj<|A5 K7<|A4 fun _ K45=>wM I I<|wA I I<|wA I I<|A3 K45<|AK ?_
 exact hret.go ⟨(s16,m16,L),hLe⟩ (OV rfl rfl rfl)
end Go.Proofs.YtoakfknnaiapiaaGreat
namespace Go.Proofs.YtoakfknnaiapiaaGreat
open Go.RowKit Go.SL Go.ShM Go.SvM
set_option maxHeartbeats 1000000
set_option maxRecDepth 20000
set_option linter.all false

theorem Uw{X:Ao}{v:Value}{kvs:List KV}{ao:Option Addr}{cap:Nat}{room tick:Int}(hS:Sv [X] v 19 EC kvs ao cap)(h:room<0\/1073741824<room):Ct Tryz.prog 15 [(.agg [.int .i64 room,.int .i64 tick,v].toArray)] [X] (fun _:Unit=>.tuple #[.pointer none,.int .i64 192]) (fun _=> [X]):=by
 refine AY (n:=120) Tryz.func15 I I I fun F w0 Q hret hnorm hp=>?_
 change WC _ _ _ _ _ _ _ (_::F)
 refine A4 fun _ K1=>AB (Ay (xs:= [.int .i64 room,.int .i64 tick,v]) I (by rw [hS.val];rfl)) I I I ?_
 rintro _ _ ⟨b1,rfl,rfl⟩
 refine wA I I<|wA I I<|A3 K1<|A4 fun _ K2=>A2 (A1 I Dx) I<|A2 (A6 I BF) I ?_
 refine AB (AE YD I (hs:=Wv (room:=room) h)) I I I ?_
 rintro _ _ ⟨⟨⟩,rfl,hA⟩
 simp only [ca] at hA
 subst hA
 refine wM I I<|A2 (BE I) I<|A2 (BN I) I<|wA I I<|wA I I<|A3 K2<|A7 fun _ K3=>A4 fun _ K4=>wM I I<|A2 (Bj (i:=190) (j:=0) I I) I ?_
 refine wM I I<|wK I<|wK I<|wK I<|wK I<|A2 (AC I I) I<|A3 K4<|Ad I<|A4 fun _ K5=>wA I I<|wA I I<|A3 K5<|AK ?_
 exact hret.go () (OV rfl rfl rfl)

end Go.Proofs.YtoakfknnaiapiaaGreat
/-
 A list put in order by insertions,in plain words. (Conditions:none;no program in sight.)
-/
set_option maxRecDepth 20000
namespace Go.SvM
open Go.SL Go.ShM Go.RowKit
def vA(l:List Bv)(i:Nat):Nat:=(l.getD i 0#32).toNat
def Ex(l:List Bv)(i j:Nat):List Bv:=(l.set i (l.getD j 0#32)).set j (l.getD i 0#32)
theorem D6(l:List Bv)(i j:Nat):(Ex l i j).length=l.length:=by unfold Ex;simp
theorem BY{l:List Bv}{i:Nat}(h:i<l.length):l[i]? =some (l.getD i 0#32):=by rw [List.getD_eq_getElem?_getD,List.getElem?_eq_getElem h];rfl
theorem Z5{l:List Bv}{i j:Nat}(hi:i<l.length)(hj:j<l.length)(k:Nat):(Ex l i j).getD k 0#32=if k=j then l.getD i 0#32 else if k=i then l.getD j 0#32 else l.getD k 0#32:=by
 unfold Ex
 rw [List.getD_eq_getElem?_getD,List.getElem?_set,List.getElem?_set]
 by_cases hk:k=j
 ·subst hk;simp [hj]
 ·rw [if_neg (Ne.symm hk),if_neg hk]
  by_cases hk':k=i
  ·subst hk';simp [hi]
  ·rw [if_neg (Ne.symm hk'),if_neg hk',<-List.getD_eq_getElem?_getD]
theorem Fx{l:List Bv}{i j:Nat}(hi:i<l.length)(hj:j<l.length)(k:Nat):vA (Ex l i j) k=if k=j then vA l i else if k=i then vA l j else vA l k:=by
 unfold vA
 rw [Z5 hi hj]
 split
 ·rfl
 ·split <;>rfl
theorem Q3{l:List Bv}{i j:Nat}(hij:i≠j)(hi:i<l.length)(hj:j<l.length):(Ex l i j).Perm l:=by
 unfold Ex
 have h1:=BY hi
 have h2:=BY hj
 generalize l.getD i 0#32=x at*
 generalize l.getD j 0#32=y at*
 obtain⟨_,e1⟩:=List.getElem?_eq_some_iff.1 h1
 rw [List.perm_iff_count]
 intro a
 have hj':((l.set i y)[j]?)=some y:=by rw [List.getElem?_set,if_neg hij];exact h2
 rw [List.count_set (by simpa using hj),List.count_set hi]
 have e2:(l.set i y)[j]'(by simpa using hj)=y:=(List.getElem?_eq_some_iff.1 hj').2
 rw [e2,e1]
 have hx:x∈l:=List.mem_of_getElem? h1
 by_cases ha:x=a
 ·subst ha
  have:=List.count_pos_iff.2 hx
  by_cases hb:y=x <;>simp [hb] <;>omega
 ·by_cases hb:y=a <;>simp [ha,hb]
def Wn(l:List Bv)(n j:Nat):Prop:= ∀p q,p<q ->q<n ->q≠j ->vA l p<=vA l q
def ZP(l:List Bv)(n:Nat):Prop:= ∀p q,p<q ->q<n ->vA l p<=vA l q
theorem ZO{l:List Bv}{n:Nat}(h:ZP l n):Wn l (n+1) n:=fun p q h1 h2 h3=>h p q h1 (by omega)
theorem Ur{l:List Bv}{n j:Nat}(hn:n<=l.length)(hj:0<j)(hjn:j<n)(hlt:vA l j<vA l (j -1))(h:Wn l n j):Wn (Ex l j (j -1)) n (j -1):=by
 intro p q h1 h2 h3
 rw [Fx (by omega) (by omega),Fx (by omega) (by omega)]
 rw [if_neg h3]
 by_cases hq:q=j
 ·rw [if_pos hq]
  by_cases hp:p=j -1
  ·rw [if_pos hp];omega
  ·rw [if_neg hp,if_neg (by omega)]
   exact h p (j -1) (by omega) (by omega) (by omega)
 ·rw [if_neg hq]
  by_cases hp:p=j -1
  ·rw [if_pos hp]
   exact h j q (by omega) h2 hq
  ·rw [if_neg hp]
   by_cases hp':p=j
   ·rw [if_pos hp']
    exact h (j -1) q (by omega) h2 hq
   ·rw [if_neg hp']
    exact h p q h1 h2 hq
theorem QT{l:List Bv}{n j:Nat}(hend:j=0\/vA l (j -1)<=vA l j)(h:Wn l n j):ZP l n:=by
 intro p q h1 h2
 by_cases hq:q=j
 ·subst hq
  rcases hend with e|e
  ·omega
  ·by_cases hp:p=q -1
   ·subst hp;exact e
   ·exact Nat.le_trans (h p (q -1) (by omega) (by omega) (by omega)) e
 ·exact h p q h1 h2 hq
theorem LS{l m:List Bv}(p:m.Perm l)(h:ZP m m.length):m=l.mergeSort fun x y=>decide (x.toNat<=y.toNat):=by
 have h1:(l.mergeSort fun x y=>decide (x.toNat<=y.toNat)).Pairwise (fun x y=>decide (x.toNat<=y.toNat)=true):=List.pairwise_mergeSort (fun a b c=>by simp;omega) (fun a b=>by simp;omega) l
 have h2:m.Pairwise (fun x y=>decide (x.toNat<=y.toNat)=true):=List.pairwise_iff_getElem.2 fun i j hi hj hij=>by
  have:=h i j hij hj
  unfold vA at this
  rw [List.getD_eq_getElem?_getD,List.getD_eq_getElem?_getD,List.getElem?_eq_getElem hi,List.getElem?_eq_getElem hj] at this
  simpa using this
 exact(p.trans (List.mergeSort_perm _ _).symm).eq_of_pairwise (fun a b _ _ q1 q2=>by simp at q1 q2;exact BitVec.eq_of_toNat_eq (by omega)) h2 h1
end Go.SvM
namespace Go.Proofs.YtoakfknnaiapiaaGreat
open Go.RowKit Go.SL Go.ShM Go.SvM
set_option maxHeartbeats 1000000
set_option maxRecDepth 20000
set_option linter.all false
theorem FC:DF Tryz.prog 111=true:=by kernel_rfl
theorem fy:DF Tryz.prog 124=true:=by kernel_rfl
theorem cp{x:Bv} :Ct Tryz.prog 124 [.int .u32 ((x.toNat:Nat):Int)] [] (fun _:Unit=>.bool false) (fun _=> []):=by
 refine AY (n:=6) Tryz.func124 I I I fun F w0 Q hret hnorm hp=>?_
 change WC _ _ _ _ _ _ _ (F)
 refine A4 fun _ K1=>wA I I<|A3 K1<|A4 fun _ K2=>wM I I<|wM I I<|A2 (GZ I I) I ?_
 refine wA I I<|A3 K2<|AK ?_
 exact hret.goE () (BR rfl rfl) (by simp)

theorem D3{x y:Bv} :Ct Tryz.prog 111 [.int .u32 ((x.toNat:Nat):Int),.int .u32 ((y.toNat:Nat):Int)] [] (fun _:Unit=>.bool (decide (x.toNat<y.toNat))) (fun _=> []):=by
 refine AY (n:=17) Tryz.func111 I I I fun F w0 Q hret hnorm hp=>?_
 change WC _ _ _ _ _ _ _ (F)
 refine A4 fun _ K1=>wA I I<|A3 K1<|A4 fun _ K2=>wM I I<|AB (AE fy I (hs:=cp (x:=x))) I I I ?_
 rintro _ _ ⟨⟨⟩,rfl,hA⟩
 simp only [ca] at hA
 subst hA
 refine wM I I<|wK I<|wK I<|wK I<|A2 (A8 I I) I<|wM I I<|wM I I<|wM I I<|A2 (An I I) I<|A2 (A8 I I) I<|wA I I<|A3 K2<|AK ?_
 exact hret.goE () (BR rfl rfl) (by first|rfl|(congr 1;done)|(congr 1;rw [Bool.eq_iff_iff];simp))

theorem Zl{a:Option Nat}{cap:Nat}{l:List Bv}(hn:l.length<=1000):Ct Tryz.prog 105 [sl a l.length cap,.int .i64 0,.int .i64 ((l.length:Nat):Int)] [Aa a cap 1 42 (eU .u32 (w:=32)) l] (fun _:Unit=>.tuple #[]) (fun _=> [Aa a cap 1 42 (eU .u32 (w:=32)) (l.mergeSort fun x y=>decide (x.toNat<=y.toNat))]):=by
 refine AY (n:=49) Tryz.func105 I I I fun F w0 Q hret hnorm hp=>?_
 change WC _ _ _ _ _ _ _ (_::F)
 refine A4 fun _ K1=>wM rfl rfl<|A2 (AN (i:=0) (j:=1) rfl rfl) rfl<|wA rfl rfl<|A3 K1<|AG<|Ak (σ:=Nat × (List Bv)) (fun ⟨i,m⟩=> [(6,.int .i64 ((i:Nat):Int))]) (fun ⟨i,m⟩=> [Aa a cap 1 42 (eU .u32 (w:=32)) m]) (fun ⟨i,m⟩=>1<=i/\m.Perm l/\ZP m i/\m.length=l.length) (fun ⟨i,m⟩=>l.length -i) ⟨1,l⟩ [0,1,2] Cw D8 ?_ ?_ Sub.refl ?_
 ·exact⟨Nat.le_refl _,List.Perm.refl _,fun p q h1 h2=>by omega,rfl⟩
 ·(try dsimp only);exact(Wk.cons Ch Wk.nil)
 rintro⟨i,m⟩ ⟨hi,hpm,hod,hml⟩ K2 K2
 simp only [List.cons_append,List.nil_append]
 refine A7 fun _ K3=>A4 fun _ K4=>wM I I<|wM I I<|A2 (An I I) I<|A3 K4<|AH I (fun hc0=>?_) (fun hc0=>?_)
 ·try simp only [dz] at hc0
  refine Cd (a:=a) Bf (by omega) (fun ga hga hcpa=>?_)
  subst hga
  refine AA<|A5 K3<|A7 fun _ K5=>AG<|A4 fun _ K6=>wM rfl rfl<|wA rfl rfl<|A3 K6<|AG<|Ak (σ:=Nat × (List Bv)) (fun ⟨j,w⟩=> [(7,.int .i64 ((j:Nat):Int))]) (fun ⟨j,w⟩=> [Aa (some ga) cap 1 42 (eU .u32 (w:=32)) w]) (fun ⟨j,w⟩=>j<=i/\w.Perm l/\Wn w (i+1) j/\w.length=l.length) (fun ⟨j,w⟩=>j) ⟨i,m⟩ [0,1,2,6,10,11,12,13,14,15] Cw D8 ?_ ?_ Sub.refl ?_
  ·exact⟨Nat.le_refl _,hpm,ZO hod,hml⟩
  ·(try dsimp only);exact(Wk.cons Ch Wk.nil)
  rintro⟨j,w⟩ ⟨hj,hpw,hoe,hwl⟩ K7 K7
  simp only [List.cons_append,List.nil_append]
  refine A7 fun _ K8=>A7 fun _ K9=>BC CE [Aa (some ga) cap 1 42 (eU .u32 (w:=32)) w] (fun i=>([2,2,2,2,2,2,2,2,2,2,2,2,2,1,2]:List Nat).getD i 0) ?_
  refine jM 0 I I I hp<|jM 1 I I I hp<|jP 2 I (Bz (j:=0) I I) I hp ?_
  refine jM 3 I I I hp<|Be 19 I (fun hg10=>?_) (fun hg10=>?_)
  ·try simp only [dz] at hg10
   refine jM 4 I I I hp<|jM 5 I I I hp<|jP 6 I (AT (j) I I B2 BI (hj:=by omega)) I hp ?_
   refine jT 7 I (AU (i:=j) (j:=0) I BX (hl:=BY (l:=w) (by omega))) I hp AQ ?_
   refine jM 8 I I I hp<|jM 9 I I I hp<|jP 10 I (Ax (j:=1) I I) I hp<|jP 11 I (AT (j -1) I I B2 BI (hj:=by omega)) I hp ?_
   refine jT 12 I (AU (i:=j -1) (j:=0) I BX (hl:=BY (l:=w) (by omega))) I hp AQ ?_
   refine jO 13<|B7 I (AE FC I (hs:=D3 (x:=w.getD j 0#32) (y:=w.getD (j -1) 0#32))) I I I I ?_
   rintro _ _ ⟨⟨⟩,rfl,hA⟩
   simp only [ca] at hA
   subst hA
   refine⟨(fun _=>AQ),?_⟩
   refine jP 14 I (AC I I) I hp<|jD<|A5 K9<|AH I (fun hc1=>?_) (fun hc1=>?_)
   ·try simp only [dz] at hc1
    have hlt:vA w j<vA w (j -1):=by unfold vA;first|assumption|simp_all
    refine AA<|A5 K8<|A7 fun _ K11=>AG<|Am CE (jz [15,17] 18) ?_
    refine jM 0 I I I hp<|jM 1 I I I hp<|jM 2 I I I hp<|jM 3 I I I hp<|jP 4 I (Ax (j:=1) I I) I hp<|jM 5 I I I hp<|jM 6 I I I hp<|jP 7 I (Ax (j:=1) I I) I hp<|jP 8 I (AT (j -1) I I B2 BI (hj:=by omega)) I hp ?_
    refine jT 9 I (AU (i:=j -1) (j:=0) I BX (hl:=BY (l:=w) (by omega))) I hp AQ ?_
    refine jM 10 I I I hp<|jM 11 I I I hp<|jP 12 I (AT (j) I I B2 BI (hj:=by omega)) I hp ?_
    refine jT 13 I (AU (i:=j) (j:=0) I BX (hl:=BY (l:=w) (by omega))) I hp AQ ?_
    refine jP 14 I (AT (j) I I B2 BI (hj:=by omega)) I hp ?_
    refine jO 15<|EN I (Aq (w.getD (j -1) 0#32) I I BI (i:=j) (j:=0) (hl:=BY (l:=w) (by omega))) I ?_
    rintro _ _ rfl
    refine jP 16 I (AT (j -1) I I B2 BI (hj:=by omega)) I hp ?_
    refine jO 17<|EN I (Aq (w.getD j 0#32) I I BI (i:=j -1) (j:=0) (hl:=BY (by rw [List.length_set];omega))) I ?_
    rintro _ _ rfl
    refine jD<|A5 K11<|AD<|wM I I ?_
    rw [show (w.set j (w.getD (j -1) 0#32)).set (j -1) (w.getD j 0#32)=Ex w j (j -1) from rfl]
    refine A2 (Ax (j:=1) I I) I<|wA I I<|AW<|Av (K7 ⟨j -1,Ex w j (j -1)⟩ (⟨by (try dsimp only);omega,(Q3 (by omega) (by omega) (by omega)).trans hpw,Ur (by omega) (by omega) (by omega) hlt hoe,by(try dsimp only);rw [D6];exact hwl⟩) (by (try dsimp only);omega))
   try simp only [dz] at hc1
   have hend:j=0\/vA w (j -1)<=vA w j:=by unfold vA;omega
   refine Aj<|A5 K5<|AD<|wM I I<|A2 (AN (j:=1) I I) I<|wA I I<|AW<|Av (K2 ⟨i+1,w⟩ (⟨by (try dsimp only);omega,hpw,QT hend hoe,hwl⟩) (by (try dsimp only);omega))
  try simp only [dz] at hg10
  refine jK 4 I I hp<|jK 5 I I hp<|jK 6 I I hp<|jK 7 I I hp<|jK 8 I I hp<|jK 9 I I hp<|jK 10 I I hp<|jK 11 I I hp<|jK 12 I I hp<|jO 13<|CN I I I I (fun _=>AQ) ?_
  refine jP 14 I (A8 I I) I hp<|jD<|A5 K9<|AM I ?_
  have hend:j=0\/vA w (j -1)<=vA w j:=by unfold vA;omega
  refine Aj<|A5 K5<|AD<|wM I I<|A2 (AN (j:=1) I I) I<|wA I I<|AW<|Av (K2 ⟨i+1,w⟩ (⟨by (try dsimp only);omega,hpw,QT hend hoe,hwl⟩) (by (try dsimp only);omega))
 try simp only [dz] at hc0
 have hso:=LS hpm (fun p q h1 h2=>hod p q h1 (by omega))
 rw [hso]
 refine Aj ?_
 exact hnorm.go () (Ke rfl)
end Go.Proofs.YtoakfknnaiapiaaGreat
namespace Go.Proofs.YtoakfknnaiapiaaGreat
open Go.RowKit Go.SL Go.ShM Go.SvM Go.Proofs Go.Shelf Go.Sort Go.Lib
set_option maxHeartbeats 1000000
set_option maxRecDepth 20000
set_option linter.all false
theorem dt:DF Tryz.prog 82=true:=by kernel_rfl
theorem KX:DF Tryz.prog 85=true:=by kernel_rfl
theorem cC:DF Tryz.prog 105=true:=by kernel_rfl
theorem N9:Zo Tryz.prog 3 146=some .u64:=by kernel_rfl
def XB:Go.Shelf.Ren:=⟨fun|125=>82|128=>103|129=>104|n=>n,fun|3=>3|4=>4|5=>5|9=>9|46=>146|51=>42|53=>165|n=>n,fun|n=>n⟩
theorem lenL:Go.Proofs.Lays.n125 Tryz.prog XB:= {
 mixed:=by kernel_rfl
 f125:=Tryz.func82.trans (congrArg some (by kernel_rfl))
 f128:=Tryz.func103.trans (congrArg some (by kernel_rfl))
 f129:=Tryz.func104.trans (congrArg some (by kernel_rfl))
 t3:=Tryz.underlying3
 a3:=Tryz.isAgg3
 z3:=Tryz.sizeOf3
 v3:=Tryz.zeroValue3
 t4:=Tryz.underlying4
 a4:=Tryz.isAgg4
 z4:=Tryz.sizeOf4
 v4:=Tryz.zeroValue4
 t5:=Tryz.underlying5
 a5:=Tryz.isAgg5
 z5:=Tryz.sizeOf5
 v5:=Tryz.zeroValue5
 t9:=Tryz.underlying9
 a9:=Tryz.isAgg9
 z9:=Tryz.sizeOf9
 v9:=Tryz.zeroValue9
 t46:=Tryz.underlying146
 a46:=Tryz.isAgg146
 z46:=Tryz.sizeOf146
 v46:=Tryz.zeroValue146
 t51:=Tryz.underlying42
 a51:=Tryz.isAgg42
 z51:=Tryz.sizeOf42
 v51:=Tryz.zeroValue42
 t53:=Tryz.underlying165
 a53:=Tryz.isAgg165
 z53:=Tryz.sizeOf165
 v53:=Tryz.zeroValue165
}

theorem P2{n:Nat}(h:n<=1000000):Ct Tryz.prog 82 [.int .u64 (n:Int)] [] (fun _:Unit=>.int .i64 (Go.Lib.bitLen (n:Int).toNat)) (fun _=> []):=
 ⟨fun F w hs=>(Any.bits_Len lenL (n:Int) w (by omega) (by omega)).mono fun e w' q=>⟨(),q.1,by rw [q.2];exact hs,by rw [q.2];exact Kept.refl _⟩⟩

theorem Wd{a:Option Nat}{cap:Nat}{l:List Bv}{lim:Int}(hn:l.length<=12):Ct Tryz.prog 85 [sl a l.length cap,.int .i64 0,.int .i64 ((l.length:Nat):Int),.int .i64 lim] [Aa a cap 1 42 (eU .u32 (w:=32)) l] (fun _:Unit=>.tuple #[]) (fun _=> [Aa a cap 1 42 (eU .u32 (w:=32)) (l.mergeSort fun x y=>decide (x.toNat<=y.toNat))]):=by
 refine AY (n:=134) Tryz.func85 I I I fun F w0 Q hret hnorm hp=>?_
 change WC _ _ _ _ _ _ _ (_::F)
 refine A4 fun _ K1=>wA I I<|A3 K1<|A4 fun _ K2=>wA I I<|A3 K2<|AG<|Ak (σ:=Nat) (fun i=> [(1,.int .i64 0),(2,.int .i64 ((l.length:Nat):Int)),(3,.int .i64 lim),(8,.bool true),(9,.bool true)]) (fun i=> []) (fun i=>i<=0) (fun i=>i) (0) [0] Cw D8 ?_ ?_ Sub.refl ?_
 ·exact Nat.le_refl _
 ·(try dsimp only);exact(Wk.cons Ch (Wk.cons Ch (Wk.cons Ch (Wk.cons Ch (Wk.cons Ch Wk.nil)))))
 rintro i hi K3 K3
 simp only [List.cons_append,List.nil_append]
 refine AG<|A4 fun _ K4=>wM I I<|wM I I<|A2 (GY (r:=((l.length:Nat):Int)) I I (JV (by omega) (by omega) (by omega))) I ?_
 refine wA I I<|A3 K4<|A7 fun _ K5=>A4 fun _ K6=>wM I I<|A2 (D5 (j:=12) I I) I ?_
 refine A3 K6<|AH I (fun hc0=>?_) (fun hc0=>?_)
 ·try simp only [dz] at hc0
  refine A4 fun _ K7=>wM I I<|wM I I<|wM I I<|AB (AE cC I (hs:=Zl (a:=a) (cap:=cap) (l:=l) (by omega))) I I I ?_
  rintro _ _ ⟨⟨⟩,rfl,hA⟩
  simp only [ca] at hA
  subst hA
  refine A3 K7<|AK ?_
  exact hret.go () (Ke rfl)
 try simp only [dz] at hc0
 omega

theorem SB{a:Option Nat}{cap:Nat}{l:List Bv}(hn:l.length<=12):Ct Tryz.prog 65 [sl a l.length cap] [Aa a cap 1 42 (eU .u32 (w:=32)) l] (fun _:Unit=>.tuple #[]) (fun _=> [Aa a cap 1 42 (eU .u32 (w:=32)) (l.mergeSort fun x y=>decide (x.toNat<=y.toNat))]):=by
 refine AY (n:=11) Tryz.func65 I I I fun F w0 Q hret hnorm hp=>?_
 change WC _ _ _ _ _ _ _ (_::F)
 refine A4 fun _ K1=>wM I I<|A2 (BA I I B2) I<|wA I I<|A3 K1<|AD<|wM I I<|wM I I<|wM I I<|A2 (Kc I N9 (r:=((l.length:Nat):Int)) (Kf (by omega))) I ?_
 refine AB (AE dt I (hs:=P2 (n:=l.length) (by omega))) I I I ?_
 rintro _ _ ⟨⟨⟩,rfl,hA⟩
 simp only [ca] at hA
 subst hA
 refine AB (AE KX I (hs:=Wd (a:=a) (cap:=cap) (l:=l) hn)) I I I ?_
 rintro _ _ ⟨⟨⟩,rfl,hA⟩
 simp only [ca] at hA
 subst hA
 refine AW ?_
 exact hnorm.go () (Ke rfl)

theorem ZB:U3 12:=fun a cap l h=>SB (a:=a) (cap:=cap) h
end Go.Proofs.YtoakfknnaiapiaaGreat
namespace Go.Proofs.YtoakfknnaiapiaaGreat
open Go.RowKit Go.SL Go.ShM Go.SvM
set_option maxHeartbeats 1000000
set_option maxRecDepth 20000
set_option linter.all false

def x9:Ix:=ix1 9#8
end Go.Proofs.YtoakfknnaiapiaaGreat
namespace Go.Proofs.YtoakfknnaiapiaaGreat
open Go.RowKit Go.SL Go.ShM Go.SvM
set_option maxHeartbeats 1000000
set_option maxRecDepth 20000
set_option linter.all false

end Go.Proofs.YtoakfknnaiapiaaGreat
/-
 A list put in order by swaps within ranges,in plain words. (Conditions:none;no program in sight.)
-/
set_option maxRecDepth 20000
namespace Go.SvM
open Go.SL Go.ShM Go.RowKit
theorem Vz{l:List Bv}{i:Nat}(hi:i<l.length):Ex l i i=l:=by
 unfold Ex
 rw [List.set_set]
 apply List.ext_getElem?
 intro k
 rw [List.getElem?_set]
 by_cases hk:i=k
 ·subst hk;rw [if_pos rfl,if_pos hi,BY hi]
 ·rw [if_neg hk]
inductive SwR (a b:Nat) (l:List Bv):List Bv ->Prop
 |refl:SwR a b l l
 |step {m:List Bv} {i j:Nat} :SwR a b l m ->a<=i ->i<b ->a<=j ->j<b ->SwR a b l (Ex m i j)
variable {a b c d : Nat} {l m n : List Bv}
theorem SwR.len(h:SwR a b l m):m.length=l.length:=by
 induction h with
 |refl=>rfl
 |step _ _ _ _ _ ih=>rw [D6];exact ih
theorem SwR.trans(h:SwR a b l m)(h2:SwR a b m n):SwR a b l n:=by
 induction h2 with
 |refl=>exact h
 |step _ q1 q2 q3 q4 ih=>exact .step ih q1 q2 q3 q4
theorem SwR.wide(h:SwR a b l m)(h1:c<=a)(h2:b<=d):SwR c d l m:=by
 induction h with
 |refl=>exact .refl
 |step _ q1 q2 q3 q4 ih=>exact .step ih (by omega) (by omega) (by omega) (by omega)
theorem SwR.perm(h:SwR a b l m)(hb:b<=l.length):m.Perm l:=by
 induction h with
 |refl=>exact .refl _
 | @step m i j q q1 q2 q3 q4 ih=>
  have:=q.len
  by_cases e:i=j
  ·subst e;rw [Vz (by omega)];exact ih
  ·exact(Q3 e (by omega) (by omega)).trans ih
theorem SwR.out(h:SwR a b l m)(hb:b<=l.length){k:Nat}(hk:k<a\/b<=k):vA m k=vA l k:=by
 induction h with
 |refl=>rfl
 | @step m i j q q1 q2 q3 q4 ih=>
  have:=q.len
  rw [Fx (by omega) (by omega),if_neg (by omega),if_neg (by omega)];exact ih
theorem SwR.all(h:SwR a b l m)(hb:b<=l.length){p:Nat ->Prop}(hp: ∀k,a<=k ->k<b ->p (vA l k)): ∀k,a<=k ->k<b ->p (vA m k):=by
 induction h with
 |refl=>exact hp
 | @step m i j q q1 q2 q3 q4 ih=>
  have:=q.len
  intro k h1 h2
  rw [Fx (by omega) (by omega)]
  split
  ·exact ih _ q1 q2
  ·split
   ·exact ih _ q3 q4
   ·exact ih _ h1 h2
def G1(l:List Bv)(a b:Nat):Prop:= ∀p q,a<=p ->p<q ->q<b ->vA l p<=vA l q
def LB(l:List Bv)(a b:Nat):Prop:=a=0\/ ∀k,a<=k ->k<b ->vA l (a -1)<=vA l k
def Jb(l:List Bv)(a b c d:Nat):Prop:= ∀p q,a<=p ->p<q ->q<b ->(p<c\/d<=q) ->vA l p<=vA l q
theorem LB.sw(h:LB l a b)(hs:SwR a b l m)(hb:b<=l.length):LB m a b:=by
 rcases h with h|h
 ·exact .inl h
 ·by_cases h0:a=0
  ·exact .inl h0
  ·refine .inr ?_
   rw [hs.out hb (.inl (by omega))]
   exact hs.all hb h
theorem QS:Jb l a b a b:=fun p q h1 h2 h3 h4=>by omega
theorem EA(h:Jb l a b c d)(hs:SwR c d l m)(h1:a<=c)(h2:d<=b)(hb:b<=l.length):Jb m a b c d:=by
 intro p q q1 q2 q3 q4
 by_cases hp:p<c\/d<=p
 ·rw [hs.out (by omega) hp]
  by_cases hq:q<c\/d<=q
  ·rw [hs.out (by omega) hq];exact h p q q1 q2 q3 q4
  ·exact hs.all (by omega) (p:=fun x=>vA l p<=x) (fun k k1 k2=>h p k q1 (by omega) (by omega) (by omega)) q (by omega) (by omega)
 ·rw [hs.out (k:=q) (by omega) (by omega)]
  exact hs.all (by omega) (p:=fun x=>x<=vA l q) (fun k k1 k2=>h k q (by omega) (by omega) q3 (by omega)) p (by omega) (by omega)
theorem Ml(h:Jb l a b c d)(hs:G1 l c d):G1 l a b:=fun p q q1 q2 q3=>by
 by_cases e:p<c\/d<=q
 ·exact h p q q1 q2 q3 e
 ·exact hs p q (by omega) q2 (by omega)
structure Cut (m:List Bv) (c d mid:Nat):Prop where
 lo:c<=mid
 hi:mid<d
 le: ∀k,c<=k ->k<mid ->vA m k<=vA m mid
 ge: ∀k,mid<k ->k<d ->vA m mid<=vA m k
theorem Cut.left{mid:Nat}(hc:Cut m c d mid)(ho:Jb m a b c d)(hs:SwR c mid m n)(hn:G1 n c mid)(h1:a<=c)(h2:d<=b)(hb:b<=m.length):Jb n a b (mid+1) d:=by
 obtain⟨lo,hi,le,ge⟩:=hc
 have ho':=EA ho (hs.wide (Nat.le_refl c) (Nat.le_of_lt hi)) h1 h2 hb
 have hm:vA n mid=vA m mid:=hs.out (by omega) (.inr (Nat.le_refl _))
 intro p q q1 q2 q3 q4
 by_cases e:p<c\/d<=q
 ·exact ho' p q q1 q2 q3 e
 ·have h3: ∀k,c<=k ->k<mid ->vA n k<=vA m mid:=hs.all (by omega) (p:=fun x=>x<=vA m mid) le
  have h4:mid<q ->vA m mid<=vA n q:=fun h=>by rw [hs.out (k:=q) (by omega) (by omega)];exact ge q h (by omega)
  by_cases e2:q<mid
  ·exact hn p q (by omega) q2 e2
  ·by_cases e3:p=mid
   ·subst e3;rw [hm];exact h4 (by omega)
   ·have h5:=h3 p (by omega) (by omega)
    by_cases e4:q=mid
    ·subst e4;rw [hm];exact h5
    ·exact Nat.le_trans h5 (h4 (by omega))
theorem Cut.right{mid:Nat}(hc:Cut m c d mid)(ho:Jb m a b c d)(hs:SwR (mid+1) d m n)(hn:G1 n (mid+1) d)(h1:a<=c)(h2:d<=b)(hb:b<=m.length):Jb n a b c mid:=by
 obtain⟨lo,hi,le,ge⟩:=hc
 have ho':=EA ho (hs.wide (by omega) (Nat.le_refl d)) h1 h2 hb
 have hm:vA n mid=vA m mid:=hs.out (by omega) (.inl (by omega))
 intro p q q1 q2 q3 q4
 by_cases e:p<c\/d<=q
 ·exact ho' p q q1 q2 q3 e
 ·have h3: ∀k,mid+1<=k ->k<d ->vA m mid<=vA n k:=hs.all (by omega) (p:=fun x=>vA m mid<=x) (fun k k1 k2=>ge k (by omega) k2)
  have h4:p<mid ->vA n p<=vA m mid:=fun h=>by rw [hs.out (k:=p) (by omega) (by omega)];exact le p (by omega) h
  by_cases e2:mid<p
  ·exact hn p q (by omega) q2 (by omega)
  ·by_cases e3:q=mid
   ·subst e3;rw [hm];exact h4 (by omega)
   ·have h5:=h3 q (by omega) (by omega)
    by_cases e4:p=mid
    ·subst e4;rw [hm];exact h5
    ·exact Nat.le_trans (h4 (by omega)) h5
theorem Cut.lbR{mid:Nat}(hc:Cut m c d mid):LB m (mid+1) d:=.inr fun k k1 k2=>by
 have:=hc.ge k (by omega) k2
 simpa using this
theorem LB.sub(h:LB m c d){e:Nat}(he:e<=d):LB m c e:=by
 rcases h with h|h
 ·exact .inl h
 ·exact .inr fun k k1 k2=>h k k1 (by omega)
theorem gX(ho:Jb m a b c d)(h:LB m a b)(h1:a<=c)(h2:d<=b):LB m c d:=by
 by_cases e:c=a
 ·subst e;exact h.sub h2
 ·exact .inr fun k k1 k2=>ho (c -1) k (by omega) (by omega) (by omega) (.inl (by omega))
theorem Mm{mid v:Nat}(ho:Jb m a b c d)(hlb:LB m c d)(hc0:0<c)(hv:v<=vA m (c -1))(hle: ∀k,c<=k ->k<mid ->vA m k<=v)(h1:a<=c)(h3:mid<=d)(h2:d<=b):Jb m a b mid d:=by
 have hge: ∀k,c<=k ->k<d ->v<=vA m k:=fun k k1 k2=>by
  rcases hlb with h|h
  ·omega
  ·exact Nat.le_trans hv (h k k1 k2)
 intro p q q1 q2 q3 q4
 by_cases e:p<c\/d<=q
 ·exact ho p q q1 q2 q3 e
 ·exact Nat.le_trans (hle p (by omega) (by omega)) (hge q (by omega) (by omega))
theorem Wm{l m:List Bv}(p:m.Perm l)(h:G1 m 0 m.length):m=l.mergeSort fun x y=>decide (x.toNat<=y.toNat):=LS p fun i j h1 h2=>h i j (Nat.zero_le _) h1 h2
def SK(l:List Bv)(a n j:Nat):Prop:= ∀p q,a<=p ->p<q ->q<n ->q≠j ->vA l p<=vA l q
theorem Jx{e:Nat}(h:G1 l a e):SK l a (e+1) e:=fun p q h0 h1 h2 h3=>h p q h0 h1 (by omega)
theorem Fj{e j:Nat}(hn:e<=l.length)(hj:a<j)(hjn:j<e)(hlt:vA l j<vA l (j -1))(h:SK l a e j):SK (Ex l j (j -1)) a e (j -1):=by
 intro p q h0 h1 h2 h3
 rw [Fx (by omega) (by omega),Fx (by omega) (by omega)]
 rw [if_neg h3]
 by_cases hq:q=j
 ·rw [if_pos hq]
  by_cases hp:p=j -1
  ·rw [if_pos hp];omega
  ·rw [if_neg hp,if_neg (by omega)]
   exact h p (j -1) h0 (by omega) (by omega) (by omega)
 ·rw [if_neg hq]
  by_cases hp:p=j -1
  ·rw [if_pos hp]
   exact h j q (by omega) (by omega) h2 hq
  ·rw [if_neg hp]
   by_cases hp':p=j
   ·rw [if_pos hp']
    exact h (j -1) q (by omega) (by omega) h2 hq
   ·rw [if_neg hp']
    exact h p q h0 h1 h2 hq
theorem G2{e j:Nat}(hend:j<=a\/vA l (j -1)<=vA l j)(h:SK l a e j):G1 l a e:=by
 intro p q h0 h1 h2
 by_cases hq:q=j
 ·subst hq
  rcases hend with e|e
  ·omega
  ·by_cases hp:p=q -1
   ·subst hp;exact e
   ·exact Nat.le_trans (h p (q -1) h0 (by omega) (by omega) (by omega)) e
 ·exact h p q h0 h1 h2 hq
theorem Up{e:Nat}(h:G1 l a e)(hlt:a<e ->vA l (e -1)<=vA l e):G1 l a (e+1):=by
 intro p q h0 h1 h2
 by_cases hq:q=e
 ·subst hq
  by_cases hp:p=q -1
  ·subst hp;exact hlt (by omega)
  ·exact Nat.le_trans (h p (q -1) h0 (by omega) (by omega)) (hlt (by omega))
 ·exact h p q h0 h1 (by omega)
theorem QR(h:G1 l a c)(hs:SwR c b l m)(hb:b<=l.length):G1 m a c:=fun p q h0 h1 h2=>by
 rw [hs.out hb (.inl (by omega)),hs.out hb (.inl (by omega))];exact h p q h0 h1 h2
def XX(l:List Bv)(f lo hi:Nat):Prop:= ∀k c,lo<=k ->(c=2*k+1\/c=2*k+2) ->c<hi ->vA l (f+c)<=vA l (f+k)
structure hpX (l:List Bv) (f lo hi r:Nat):Prop where
 fl:lo<=r
 ot: ∀k c,lo<=k ->k≠r ->(c=2*k+1\/c=2*k+2) ->c<hi ->vA l (f+c)<=vA l (f+k)
 gp: ∀k c,lo<=k ->(r=2*k+1\/r=2*k+2) ->(c=2*r+1\/c=2*r+2) ->c<hi ->vA l (f+c)<=vA l (f+k)
theorem dD{f lo hi:Nat}(h:XX l f (lo+1) hi):hpX l f lo hi lo:=⟨Nat.le_refl _,fun k c h1 h2 h3 h4=>h k c (by omega) h3 h4,fun k c h1 h2 h3 h4=>by omega⟩
theorem PC{f lo hi r:Nat}(h:hpX l f lo hi r)(h1: ∀c,(c=2*r+1\/c=2*r+2) ->c<hi ->vA l (f+c)<=vA l (f+r)):XX l f lo hi:=fun k c q1 q2 q3=>by
 by_cases e:k=r
 ·subst e;exact h1 c q2 q3
 ·exact h.ot k c q1 e q2 q3
theorem Qu{f lo hi r c':Nat}(h:hpX l f lo hi r)(hl:f+hi<=l.length)(hc:c'=2*r+1\/c'=2*r+2)(hch:c'<hi)(hgt:vA l (f+r)<=vA l (f+c'))(hmx: ∀c,(c=2*r+1\/c=2*r+2) ->c<hi ->vA l (f+c)<=vA l (f+c')):hpX (Ex l (f+r) (f+c')) f lo hi c':=by
 have h0:=h.fl
 have hv: ∀k,vA (Ex l (f+r) (f+c')) (f+k)=if k=c' then vA l (f+r) else if k=r then vA l (f+c') else vA l (f+k):=fun k=>by
  rw [Fx (by omega) (by omega)]
  by_cases e:k=c'
  ·rw [if_pos (by omega),if_pos e]
  ·rw [if_neg (by omega),if_neg e]
   by_cases e2:k=r
   ·rw [if_pos (by omega),if_pos e2]
   ·rw [if_neg (by omega),if_neg e2]
 refine⟨by omega,fun k c q1 q2 q3 q4=>?_,fun k c q1 q2 q3 q4=>?_⟩
 ·rw [hv,hv,if_neg q2]
  by_cases e:k=r
  ·subst e
   rw [if_pos rfl]
   by_cases e2:c=c'
   ·rw [if_pos e2];exact hgt
   ·rw [if_neg e2,if_neg (by omega)];exact hmx c q3 q4
  ·rw [if_neg e]
   by_cases e2:c=c'
   ·omega
   ·rw [if_neg e2]
    by_cases e3:c=r
    ·rw [if_pos e3];exact h.gp k c' q1 (by omega) hc hch
    ·rw [if_neg e3];exact h.ot k c q1 e q3 q4
 ·have ek:k=r:=by omega
  subst ek
  rw [hv,hv,if_neg (by omega),if_neg (by omega),if_neg (by omega),if_pos rfl]
  exact h.ot c' c (by omega) (by omega) q3 q4
theorem Zp{f hi:Nat}(h:XX l f 0 hi): ∀k,k<hi ->vA l (f+k)<=vA l f:=by
 intro k
 induction k using Nat.strongRecOn with
 |ind k ih=>
  intro hk
  by_cases e:k=0
  ·subst e;exact Nat.le_refl _
  ·exact Nat.le_trans (h ((k -1) / 2) k (Nat.zero_le _) (by omega) hk) (ih _ (by omega) (by omega))
theorem XW{f hi:Nat}{lo:Nat}(h:hi<=2*lo+1):XX l f lo hi:=fun k c q1 q2 q3=>by omega
theorem XV{f i:Nat}(h:XX l f 0 (i+1))(hl:f+i<l.length):XX (Ex l f (f+i)) f 1 i:=fun k c q1 q2 q3=>by
 rw [Fx (by omega) (by omega),Fx (by omega) (by omega),if_neg (by omega),if_neg (by omega),if_neg (by omega),if_neg (by omega)]
 exact h k c (Nat.zero_le _) q2 (by omega)
theorem Uq{f i e:Nat}(h:XX l f 0 (i+1))(ho:Jb l f (f+e) f (f+(i+1)))(hi:i<e)(hl:f+e<=l.length):Jb (Ex l f (f+i)) f (f+e) f (f+i):=by
 have ht:=Zp h
 have h2:SwR f (f+(i+1)) l (Ex l f (f+i)):=.step .refl (by omega) (by omega) (by omega) (by omega)
 have ho2:=EA ho h2 (Nat.le_refl f) (by omega) hl
 intro p q q1 q2 q3 q4
 by_cases e1:q=f+i
 ·subst e1
  rw [Fx (k:=f+i) (by omega) (by omega),if_pos rfl]
  refine h2.all (p:=fun x=>x<=vA l f) (by omega) (fun k k1 k2=>?_) p (by omega) (by omega)
  have:=ht (k -f) (by omega)
  rw [show f+(k -f)=k by omega] at this
  exact this
 ·exact ho2 p q q1 q2 q3 (.inr (by omega))
theorem UZ{f r hi:Nat}(h:vA l (f+(2*r+1))<=vA l (f+(2*r+2))): ∀e,(e=2*r+1\/e=2*r+2) ->e<hi ->vA l (f+e)<=vA l (f+(2*r+2)):=fun e h1 h2=>by
 rcases h1 with rfl|rfl
 ·exact h
 ·exact Nat.le_refl _
theorem Nt{f r hi:Nat}(h:2*r+2<hi ->vA l (f+(2*r+2))<=vA l (f+(2*r+1))): ∀e,(e=2*r+1\/e=2*r+2) ->e<hi ->vA l (f+e)<=vA l (f+(2*r+1)):=fun e h1 h2=>by
 rcases h1 with rfl|rfl
 ·exact Nat.le_refl _
 ·exact h h2
def U5(w:List Bv)(a i:Nat):Prop:= ∀k,a<k ->k<i ->vA w k<=vA w a
def Yw(w:List Bv)(a j b:Nat):Prop:= ∀k,j<k ->k<b ->vA w a<=vA w k
theorem Ng{w:List Bv}{i:Nat}(h:U5 w a i)(h1:vA w i<=vA w a):U5 w a (i+1):=fun k k1 k2=>by
 by_cases e:k=i
 ·subst e;exact h1
 ·exact h k k1 (by omega)
theorem Rk{w:List Bv}{j:Nat}(h:Yw w a j b)(h1:vA w a<=vA w j):Yw w a (j -1) b:=fun k k1 k2=>by
 by_cases e:k=j
 ·subst e;exact h1
 ·exact h k (by omega) k2
theorem Nf{w:List Bv}{i j:Nat}(hi:a<i)(hij:i<j)(hj:j<w.length)(h:U5 w a i)(h1:vA w j<=vA w a):U5 (Ex w i j) a (i+1):=fun k k1 k2=>by
 rw [Fx (by omega) hj,Fx (by omega) hj,if_neg (by omega),if_neg (show ¬a=j by omega),if_neg (show ¬a=i by omega)]
 by_cases e:k=i
 ·rw [if_pos e];exact h1
 ·rw [if_neg e];exact h k k1 (by omega)
theorem Rj{w:List Bv}{i j:Nat}(hi:a<i)(hij:i<j)(hj:j<w.length)(h:Yw w a j b)(h1:vA w a<=vA w i):Yw (Ex w i j) a (j -1) b:=fun k k1 k2=>by
 rw [Fx (by omega) hj,Fx (by omega) hj,if_neg (show ¬a=j by omega),if_neg (show ¬a=i by omega)]
 by_cases e:k=j
 ·rw [if_pos e];exact h1
 ·rw [if_neg e,if_neg (by omega)];exact h k (by omega) k2
theorem Mv{w:List Bv}{i j:Nat}{x:Nat}(h:i<=j)(h1:vA w j<x)(h2:x<=vA w i):i<j:=by
 rcases Nat.lt_or_ge i j with q|q
 ·exact q
 ·have:i=j:=by omega
  subst this;omega
theorem Qi{w:List Bv}{i j:Nat}{x:Nat}(h:i<=j)(h1:vA w j<=x)(h2:x<vA w i):i<j:=by
 rcases Nat.lt_or_ge i j with q|q
 ·exact q
 ·have:i=j:=by omega
  subst this;omega
theorem U7{w:List Bv}{i j:Nat}(hlo:U5 w a i)(hhi:Yw w a j b)(h1:i=j+1)(h2:a<=j)(h3:j<b)(hb:b<=w.length):Cut (Ex w j a) a b j:=by
 have hv: ∀k,vA (Ex w j a) k=if k=a then vA w j else if k=j then vA w a else vA w k:=fun k=>Fx (by omega) (by omega) k
 refine⟨h2,h3,fun k k1 k2=>?_,fun k k1 k2=>?_⟩
 ·rw [hv,hv,if_neg (show ¬j=a by omega),if_pos rfl]
  split
  ·exact hlo j (by omega) (by omega)
  ·rw [if_neg (by omega)];exact hlo k (by omega) (by omega)
 ·rw [hv,hv,if_neg (show ¬k=a by omega),if_neg (show ¬k=j by omega)]
  split
  ·rename_i e;subst e;exact hhi k k1 k2
  ·rw [if_pos rfl];exact hhi k k1 k2
theorem Z6{w:List Bv}{p:Nat}(ha:a<w.length)(hp:p<w.length):vA (Ex w a p) a=vA w p:=by
 rw [Fx ha hp]
 split
 ·rename_i e;rw [e]
 ·rw [if_pos rfl]
theorem bM{w:List Bv}{i v:Nat}(h:U5 w a i)(h1:vA w a<=v): ∀k,a<=k ->k<i ->vA w k<=v:=fun k k1 k2=>by
 by_cases e:k=a
 ·subst e;exact h1
 ·exact Nat.le_trans (h k (by omega) k2) h1
end Go.SvM
/-
 Ways that meet behind a piece of code. (Conditions:none;generic over the program.)
-/
namespace Go.SL
open Go.RowKit
theorem Cx{P:Program}{m:Md}{Q:Exit ->Act ->World ->Prop}{w0:World}{n:Nat}{L D:List (Nat × Value)}{A R B0:List Ao}{x:Code}{σ:Type}(M:σ ->List (Nat × Value))(B:σ ->List Ao)(φ:σ ->Prop)(ks:List Nat)(hD:Kep ks L D)(hR:Gv A B0 R)
  (hx:(∀s,φ s ->Ps m (Q .normal) w0 n (M s++D) (B s++R)) ->WC P m Q w0 n x L A) (hy: ∀s,φ s ->Ps m (Q .normal) w0 n (M s++D) (B s++R)):WC P m Q w0 n x L A:=hx hy
end Go.SL
namespace Go.Proofs.YtoakfknnaiapiaaGreat
open Go.RowKit Go.SL Go.ShM Go.SvM
set_option maxHeartbeats 1000000
set_option maxRecDepth 20000
set_option linter.all false
theorem YC:DF Tryz.prog 122=true:=by kernel_rfl
theorem cA:DF Tryz.prog 123=true:=by kernel_rfl
theorem YB:DF Tryz.prog 135=true:=by kernel_rfl
theorem Zm{ga cap n a b:Nat}{l:List Bv}(hl:l.length=n)(hn:n<=1000)(hab:a<=b)(hb:b<=n):Ct Tryz.prog 105 [sl (some ga) n cap,.int .i64 ((a:Nat):Int),.int .i64 ((b:Nat):Int)] [Aa (some ga) cap 1 42 (eU .u32 (w:=32)) l] (fun g: {m:List Bv // SwR a b l m/\G1 m a b} =>.tuple #[]) (fun g=> [Aa (some ga) cap 1 42 (eU .u32 (w:=32)) g.1]):=by
 refine AY (n:=49) Tryz.func105 I I I fun F w0 Q hret hnorm hp=>?_
 change WC _ _ _ _ _ _ _ (_::F)
 refine A4 fun _ K1=>wM rfl rfl<|A2 (AN (j:=1) rfl rfl) rfl<|wA rfl rfl<|A3 K1<|AG<|Ak (σ:=Nat × (List Bv)) (fun ⟨i,m⟩=> [(6,.int .i64 ((i:Nat):Int))]) (fun ⟨i,m⟩=> [Aa (some ga) cap 1 42 (eU .u32 (w:=32)) m]) (fun ⟨i,m⟩=>a+1<=i/\SwR a b l m/\G1 m a i/\m.length=n) (fun ⟨i,m⟩=>b -i) ⟨a+1,l⟩ [0,1,2] Cw D8 ?_ ?_ Sub.refl ?_
 ·exact⟨Nat.le_refl _,.refl,fun p q h0 h1 h2=>by omega,hl⟩
 ·(try dsimp only);exact(Wk.cons Ch Wk.nil)
 rintro⟨i,m⟩ ⟨hi,hsw,hod,hml⟩ K2 K2
 simp only [List.cons_append,List.nil_append]
 refine A7 fun _ K3=>A4 fun _ K4=>wM I I<|wM I I<|A2 (An I I) I<|A3 K4<|AH I (fun hc0=>?_) (fun hc0=>?_)
 ·try simp only [dz] at hc0
  refine AA<|A5 K3<|A7 fun _ K5=>AG<|A4 fun _ K6=>wM rfl rfl<|wA rfl rfl<|A3 K6<|AG<|Ak (σ:=Nat × (List Bv)) (fun ⟨j,w⟩=> [(7,.int .i64 ((j:Nat):Int))]) (fun ⟨j,w⟩=> [Aa (some ga) cap 1 42 (eU .u32 (w:=32)) w]) (fun ⟨j,w⟩=>(a<=j/\j<=i)/\SwR a b l w/\SK w a (i+1) j/\w.length=n) (fun ⟨j,w⟩=>j) ⟨i,m⟩ [0,1,2,6,10,11,12,13,14,15] Cw D8 ?_ ?_ Sub.refl ?_
  ·exact⟨by omega,hsw,Jx hod,hml⟩
  ·(try dsimp only);exact(Wk.cons Ch Wk.nil)
  rintro⟨j,w⟩ ⟨hj,hsw2,hof,hwl⟩ K7 K7
  simp only [List.cons_append,List.nil_append]
  refine A7 fun _ K8=>A7 fun _ K9=>BC CE [Aa (some ga) cap 1 42 (eU .u32 (w:=32)) w] (fun i=>([2,2,2,2,2,2,2,2,2,2,2,2,2,1,2]:List Nat).getD i 0) ?_
  refine jM 0 I I I hp<|jM 1 I I I hp<|jP 2 I (Bz I I) I hp ?_
  refine jM 3 I I I hp<|Be 19 I (fun hg10=>?_) (fun hg10=>?_)
  ·try simp only [dz] at hg10
   refine jM 4 I I I hp<|jM 5 I I I hp<|jP 6 I (AT (j) I I B2 BI (hj:=by omega)) I hp ?_
   refine jT 7 I (AU (i:=j) (j:=0) I BX (hl:=BY (l:=w) (by omega))) I hp AQ ?_
   refine jM 8 I I I hp<|jM 9 I I I hp<|jP 10 I (Ax (j:=1) I I) I hp<|jP 11 I (AT (j -1) I I B2 BI (hj:=by omega)) I hp ?_
   refine jT 12 I (AU (i:=j -1) (j:=0) I BX (hl:=BY (l:=w) (by omega))) I hp AQ ?_
   refine jO 13<|B7 I (AE FC I (hs:=D3 (x:=w.getD (j) 0#32) (y:=w.getD (j -1) 0#32))) I I I I ?_
   rintro _ _ ⟨⟨⟩,rfl,hA⟩
   simp only [ca] at hA
   subst hA
   refine⟨(fun _=>AQ),?_⟩
   refine jP 14 I (AC I I) I hp<|jD<|A5 K9<|AH I (fun hc1=>?_) (fun hc1=>?_)
   ·try simp only [dz] at hc1
    have hlt:vA w j<vA w (j -1):=by unfold vA at *;first|assumption|omega|(simp_all;done)|(simp_all;omega)
    refine AA<|A5 K8<|A7 fun _ K11=>AG<|Am CE (jz [15,17] 18) ?_
    refine jM 0 I I I hp<|jM 1 I I I hp<|jM 2 I I I hp<|jM 3 I I I hp<|jP 4 I (Ax (j:=1) I I) I hp<|jM 5 I I I hp<|jM 6 I I I hp<|jP 7 I (Ax (j:=1) I I) I hp<|jP 8 I (AT (j -1) I I B2 BI (hj:=by omega)) I hp ?_
    refine jT 9 I (AU (i:=j -1) (j:=0) I BX (hl:=BY (l:=w) (by omega))) I hp AQ ?_
    refine jM 10 I I I hp<|jM 11 I I I hp<|jP 12 I (AT (j) I I B2 BI (hj:=by omega)) I hp ?_
    refine jT 13 I (AU (i:=j) (j:=0) I BX (hl:=BY (l:=w) (by omega))) I hp AQ ?_
    refine jP 14 I (AT (j) I I B2 BI (hj:=by omega)) I hp ?_
    refine jO 15<|EN I (Aq (w.getD (j -1) 0#32) I I BI (i:=j) (j:=0) (hl:=BY (l:=w) (by omega))) I ?_
    rintro _ _ rfl
    refine jP 16 I (AT (j -1) I I B2 BI (hj:=by omega)) I hp ?_
    refine jO 17<|EN I (Aq (w.getD (j) 0#32) I I BI (i:=j -1) (j:=0) (hl:=BY (by rw [List.length_set];omega))) I ?_
    rintro _ _ rfl
    refine jD<|A5 K11<|AD<|wM I I ?_
    rw [show (w.set (j) (w.getD (j -1) 0#32)).set (j -1) (w.getD (j) 0#32)=Ex w (j) (j -1) from rfl]
    refine A2 (Ax (j:=1) I I) I<|wA I I<|AW<|Av (K7 ⟨j -1,Ex w j (j -1)⟩ (⟨by (try dsimp only);omega,.step hsw2 (by omega) (by omega) (by omega) (by omega),Fj (by omega) (by omega) (by omega) hlt hof,by(try dsimp only);rw [D6];exact hwl⟩) (by (try dsimp only);omega))
   try simp only [dz] at hc1
   have hend:j<=a\/vA w (j -1)<=vA w j:=by unfold vA at *;first|assumption|omega|(simp_all;done)|(simp_all;omega)
   refine Aj<|A5 K5<|AD<|wM I I<|A2 (AN (j:=1) I I) I<|wA I I<|AW<|Av (K2 ⟨i+1,w⟩ (⟨by (try dsimp only);omega,hsw2,G2 hend hof,hwl⟩) (by (try dsimp only);omega))
  try simp only [dz] at hg10
  refine jK 4 I I hp<|jK 5 I I hp<|jK 6 I I hp<|jK 7 I I hp<|jK 8 I I hp<|jK 9 I I hp<|jK 10 I I hp<|jK 11 I I hp<|jK 12 I I hp<|jO 13<|CN I I I I (fun _=>AQ) ?_
  refine jP 14 I (A8 I I) I hp<|jD<|A5 K9<|AM I ?_
  have hend:j<=a\/vA w (j -1)<=vA w j:=by unfold vA at *;first|assumption|omega|(simp_all;done)|(simp_all;omega)
  refine Aj<|A5 K5<|AD<|wM I I<|A2 (AN (j:=1) I I) I<|wA I I<|AW<|Av (K2 ⟨i+1,w⟩ (⟨by (try dsimp only);omega,hsw2,G2 hend hof,hwl⟩) (by (try dsimp only);omega))
 try simp only [dz] at hc0
 refine Aj ?_
 exact hnorm.go ⟨m,hsw,fun p q h0 h1 h2=>hod p q h0 h1 (by omega)⟩ (Ke rfl)

theorem Ou{ga cap n a b:Nat}{l:List Bv}{c s:Nat}(hl:l.length=n)(hn:n<=1000)(ha:a<n)(hb:b<n)(hs:s<=1000):Ct Tryz.prog 135 [sl (some ga) n cap,.int .i64 ((a:Nat):Int),.int .i64 ((b:Nat):Int),.pointer (some ⟨c,0,none⟩)] [Aa (some ga) cap 1 42 (eU .u32 (w:=32)) l,cl c 3 [.int .i64 ((s:Nat):Int)]] (fun g: {q:Nat × Nat × Nat // ((q.1=a/\q.2.1=b)\/(q.1=b/\q.2.1=a))/\q.2.2<=s+1} =>.tuple #[.int .i64 ((g.1.1:Nat):Int),.int .i64 ((g.1.2.1:Nat):Int)]) (fun g=> [Aa (some ga) cap 1 42 (eU .u32 (w:=32)) l,cl c 3 [.int .i64 ((g.1.2.2:Nat):Int)]]):=by
 refine AY (n:=28) Tryz.func135 I I I fun F w0 Q hret hnorm hp=>?_
 change WC _ _ _ _ _ _ _ (_::_::F)
 refine A4 fun _ K1=>wA I I<|wA I I<|A3 K1<|A7 fun _ K2=>A7 fun _ K3=>BC CE [Aa (some ga) cap 1 42 (eU .u32 (w:=32)) l] (fun i=>([2,2,2,2,2,2,2,2,1]:List Nat).getD i 0) ?_
 refine jM 0 I I I hp<|jM 1 I I I hp<|jP 2 I (AT (b) I I B2 BI (hj:=by omega)) I hp ?_
 refine jT 3 I (AU (i:=b) (j:=0) I BX (hl:=BY (l:=l) (by omega))) I hp AQ ?_
 refine jM 4 I I I hp<|jM 5 I I I hp<|jP 6 I (AT (a) I I B2 BI (hj:=by omega)) I hp ?_
 refine jT 7 I (AU (i:=a) (j:=0) I BX (hl:=BY (l:=l) (by omega))) I hp AQ ?_
 refine jO 8<|B7 I (AE FC I (hs:=D3 (x:=l.getD (b) 0#32) (y:=l.getD (a) 0#32))) I I I I ?_
 rintro _ _ ⟨⟨⟩,rfl,hA⟩
 simp only [ca] at hA
 subst hA
 refine⟨(fun _=>AQ),?_⟩
 refine jD<|A5 K3<|AH I (fun hc0=>?_) (fun hc0=>?_)
 ·try simp only [dz] at hc0
  refine A4 fun _ K4=>wM I I<|A2 (A9 I) I<|A2 (A6 I BF (v:=.int .i64 ((s:Nat):Int))) I<|A2 (AN (j:=1) I I) I<|A2 (A9 I) I<|AX (Ar I I Fw) I I ?_
  rintro _ _ rfl
  refine A3 K4<|A4 fun _ K5=>wM I I<|wM I I<|wA I I<|wA I I<|A3 K5<|AK ?_
  exact hret.go ⟨(b,a,s+1),.inr ⟨rfl,rfl⟩,Nat.le_refl _⟩ (OV rfl rfl rfl)
 try simp only [dz] at hc0
 refine AA<|A5 K2<|A4 fun _ K6=>wM I I<|wM I I<|wA I I<|wA I I<|A3 K6<|AK ?_
 exact hret.go ⟨(a,b,s),.inl ⟨rfl,rfl⟩,Nat.le_succ _⟩ (OV rfl rfl rfl)

theorem X2{ga cap n a b:Nat}{l:List Bv}{x c s:Nat}(hl:l.length=n)(hn:n<=1000)(ha:a<n)(hb:b<n)(hx:x<n)(hs:s<=900):Ct Tryz.prog 123 [sl (some ga) n cap,.int .i64 ((a:Nat):Int),.int .i64 ((b:Nat):Int),.int .i64 ((x:Nat):Int),.pointer (some ⟨c,0,none⟩)] [Aa (some ga) cap 1 42 (eU .u32 (w:=32)) l,cl c 3 [.int .i64 ((s:Nat):Int)]] (fun g: {q:Nat × Nat // (q.1=a\/q.1=b\/q.1=x)/\q.2<=s+3} =>.int .i64 ((g.1.1:Nat):Int)) (fun g=> [Aa (some ga) cap 1 42 (eU .u32 (w:=32)) l,cl c 3 [.int .i64 ((g.1.2:Nat):Int)]]):=by
 refine AY (n:=36) Tryz.func123 I I I fun F w0 Q hret hnorm hp=>?_
 change WC _ _ _ _ _ _ _ (_::_::F)
 refine A4 fun _ K1=>wA I I<|A3 K1<|A4 fun _ K2=>wM I I<|wM I I<|wM I I<|wM I I<|AB (AE YB I (hs:=Ou (l:=l) (c:=c) (s:=s) (a:=a) (b:=b) hl hn (by omega) (by omega) (by omega))) I I I ?_
 rintro _ _ ⟨⟨⟨a1,b1,s1⟩,h1,hs1⟩,rfl,hA⟩
 simp only [ca] at hA
 subst hA
 dsimp only at h1 hs1 ⊢
 refine wM I I<|A2 (BE I) I<|A2 (BN I) I<|wA I I<|wA I I<|A3 K2<|A4 fun _ K3=>wM I I<|wM I I<|wM I I<|wM I I<|AB (AE YB I (hs:=Ou (l:=l) (c:=c) (s:=s1) (a:=b1) (b:=x) hl hn (by omega) (by omega) (by omega))) I I I ?_
 rintro _ _ ⟨⟨⟨b2,x2,s2⟩,h2,hs2⟩,rfl,hA⟩
 simp only [ca] at hA
 subst hA
 dsimp only at h2 hs2 ⊢
 refine wM I I<|A2 (BE I) I<|A2 (BN I) I<|wA I I<|wA I I<|A3 K3<|A4 fun _ K4=>wM I I<|wM I I<|wM I I<|wM I I<|AB (AE YB I (hs:=Ou (l:=l) (c:=c) (s:=s2) (a:=a1) (b:=b2) hl hn (by omega) (by omega) (by omega))) I I I ?_
 rintro _ _ ⟨⟨⟨a3,b3,s3⟩,h3,hs3⟩,rfl,hA⟩
 simp only [ca] at hA
 subst hA
 dsimp only at h3 hs3 ⊢
 refine wM I I<|A2 (BE I) I<|A2 (BN I) I<|wA I I<|wA I I<|A3 K4<|A4 fun _ K5=>wM I I<|wA I I<|A3 K5<|AK ?_
 exact hret.go ⟨(b3,s3),by(try dsimp only);omega,by(try dsimp only);omega⟩ (BR rfl rfl)

theorem P0{ga cap n a c s:Nat}{l:List Bv}(hl:l.length=n)(hn:n<=1000)(ha:1<=a)(hb:a+1<n)(hs:s<=900):Ct Tryz.prog 122 [sl (some ga) n cap,.int .i64 ((a:Nat):Int),.pointer (some ⟨c,0,none⟩)] [Aa (some ga) cap 1 42 (eU .u32 (w:=32)) l,cl c 3 [.int .i64 ((s:Nat):Int)]] (fun g: {q:Nat × Nat // (a -1<=q.1/\q.1<=a+1)/\q.2<=s+3} =>.int .i64 ((g.1.1:Nat):Int)) (fun g=> [Aa (some ga) cap 1 42 (eU .u32 (w:=32)) l,cl c 3 [.int .i64 ((g.1.2:Nat):Int)]]):=by
 refine AY (n:=15) Tryz.func122 I I I fun F w0 Q hret hnorm hp=>?_
 change WC _ _ _ _ _ _ _ (_::_::F)
 refine A4 fun _ K1=>wA I I<|A3 K1<|A4 fun _ K2=>wM I I<|wM I I<|A2 (Ax (j:=1) I I) I<|wM I I<|wM I I<|A2 (AN (j:=1) I I) I<|wM I I<|AB (AE cA I (hs:=X2 (l:=l) (c:=c) (s:=s) (a:=a -1) (b:=a) (x:=a+1) hl hn (by omega) (by omega) (by omega) (by omega))) I I I ?_
 rintro _ _ ⟨⟨⟨m1,s1⟩,h1,hs1⟩,rfl,hA⟩
 simp only [ca] at hA
 subst hA
 refine wA I I<|A3 K2<|AK ?_
 exact hret.go ⟨(m1,s1),by(try dsimp only at *);omega,hs1⟩ (BR rfl rfl)

theorem cj{ga cap n a b:Nat}{l:List Bv}(hl:l.length=n)(hn:n<=1000)(hab:a+13<=b)(hb:b<=n):Ct Tryz.prog 108 [sl (some ga) n cap,.int .i64 ((a:Nat):Int),.int .i64 ((b:Nat):Int)] [Aa (some ga) cap 1 42 (eU .u32 (w:=32)) l] (fun g: {q:Nat × Nat // (a<=q.1/\q.1<b)/\q.2<=2} =>.tuple #[.int .i64 ((g.1.1:Nat):Int),.int .i64 ((g.1.2:Nat):Int)]) (fun g=> [Aa (some ga) cap 1 42 (eU .u32 (w:=32)) l]):=by
 refine AY (n:=57) Tryz.func108 I I I fun F w0 Q hret hnorm hp=>?_
 change WC _ _ _ _ _ _ _ (_::F)
 refine A4 fun _ K1=>wA I I<|wA I I<|A3 K1<|A4 fun _ K2=>wM I I<|wM I I<|A2 (Ax I I) I<|wA I I<|A3 K2<|A4 fun _ K3=>AB (AZ UA) I I I ?_
 rintro _ _ ⟨b9,rfl,rfl⟩
 rw [show cl b9 3 [.int .i64 0]=cl b9 3 [.int .i64 ((0:Nat):Int)] from rfl]
 refine A3 K3<|A4 fun _ K4=>wM I I<|wM I I<|A2 (F4 (j:=4) I I) I ?_
 refine A2 (ET (j:=1) I I) I ?_
 refine A2 (AN I I) I<|wA I I<|A3 K4<|A4 fun _ K5=>wM I I<|wM I I<|A2 (F4 (j:=4) I I) I ?_
 refine A2 (ET (j:=2) I I) I ?_
 refine A2 (AN I I) I<|wA I I<|A3 K5<|A4 fun _ K6=>wM I I<|wM I I<|A2 (F4 (j:=4) I I) I ?_
 refine A2 (ET (j:=3) I I) I ?_
 refine A2 (AN I I) I<|wA I I<|A3 K6<|A7 fun _ K7=>A4 fun _ K8=>wM I I<|A2 (Bl (j:=8) I I) I ?_
 refine A3 K8<|AH I (fun hc0=>?_) (fun hc0=>?_)
 ·try simp only [dz] at hc0
  refine A7 fun _ K9=>A4 fun _ K10=>wM I I<|A2 (Bl (j:=50) I I) I ?_
  refine A3 K10<|Cx (B0:= [cl b9 3 [.int .i64 ((0:Nat):Int)]]) (σ:=Nat × Nat × Nat × Nat) (fun ⟨i,j,k,s⟩=> [(10,.int .i64 ((i:Nat):Int)),(11,.int .i64 ((j:Nat):Int)),(12,.int .i64 ((k:Nat):Int))]) (fun ⟨i,j,k,s⟩=> [cl b9 3 [.int .i64 ((s:Nat):Int)]]) (fun ⟨i,j,k,s⟩=>(a<=i/\i<b)/\(a<=j/\j<b)/\(a<=k/\k<b)/\s<=9) [0,6,7,9,34,44,45,46,47,48,49,50,51,52,53,54,55,56] Cw D8 ?_ ?_
  ·intro K11
   refine AH I (fun hc1=>?_) (fun hc1=>?_)
   ·try simp only [dz] at hc1
    refine A4 fun _ K12=>wM I I<|wM I I<|AB (AE YC I (hs:=P0 (l:=l) (c:=b9) (s:=0) (a:=a+(b -a) / 4*1) hl hn (by omega) (by omega) (by omega))) I I I ?_
    rintro _ _ ⟨⟨⟨i1,s1⟩,h1,hs1⟩,rfl,hA⟩
    simp only [ca] at hA
    subst hA
    dsimp only at h1 hs1 ⊢
    refine wA I I<|A3 K12<|A4 fun _ K13=>wM I I<|wM I I<|AB (AE YC I (hs:=P0 (l:=l) (c:=b9) (s:=s1) (a:=a+(b -a) / 4*2) hl hn (by omega) (by omega) (by omega))) I I I ?_
    rintro _ _ ⟨⟨⟨j1,s2⟩,h2,hs2⟩,rfl,hA⟩
    simp only [ca] at hA
    subst hA
    dsimp only at h2 hs2 ⊢
    refine wA I I<|A3 K13<|AD<|wM I I<|wM I I<|AB (AE YC I (hs:=P0 (l:=l) (c:=b9) (s:=s2) (a:=a+(b -a) / 4*3) hl hn (by omega) (by omega) (by omega))) I I I ?_
    rintro _ _ ⟨⟨⟨k1,s3⟩,h3,hs3⟩,rfl,hA⟩
    simp only [ca] at hA
    subst hA
    dsimp only at h3 hs3 ⊢
    refine wA I I<|AW<|Av (K11 ⟨i1,j1,k1,s3⟩ (⟨by (try dsimp only);omega,by(try dsimp only);omega,by(try dsimp only);omega,by(try dsimp only);omega⟩))
   try simp only [dz] at hc1
   refine AA<|Av (K11 ⟨a+(b -a) / 4*1,a+(b -a) / 4*2,a+(b -a) / 4*3,0⟩ (⟨by (try dsimp only);omega,by(try dsimp only);omega,by(try dsimp only);omega,by(try dsimp only);omega⟩))
  rintro⟨i,j,k,s⟩ ⟨hi,hj,hk,hs⟩
  simp only [List.cons_append,List.nil_append]
  refine A5 K9<|AD<|wM I I<|wM I I<|wM I I<|wM I I<|AB (AE cA I (hs:=X2 (l:=l) (c:=b9) (s:=s) (a:=i) (b:=j) (x:=k) hl hn (by omega) (by omega) (by omega) (by omega))) I I I ?_
  rintro _ _ ⟨⟨⟨m4,s4⟩,h4,hs4⟩,rfl,hA⟩
  simp only [ca] at hA
  subst hA
  dsimp only at h4 hs4 ⊢
  refine wA I I<|AW<|A5 K7<|A4 fun _ K14=>A2 (A6 I BF (v:=.int .i64 ((s4:Nat):Int))) I<|A3 K14<|AG<|A4 fun _ K15=>A2 (Ab (j:=0) I I) I<|wA I I<|A3 K15<|AH I (fun hc2=>?_) (fun hc2=>?_)
  ·try simp only [dz] at hc2
   refine A4 fun _ K16=>wM I I<|wA I I<|wA I I<|A3 K16<|AK ?_
   exact hret.go ⟨(m4,1),by(try dsimp only);omega,by(try dsimp only);omega⟩ (OV rfl rfl rfl)
  try simp only [dz] at hc2
  refine A4 fun _ K17=>A2 (Ab (j:=12) I I) I<|wA I I<|A3 K17<|AH I (fun hc3=>?_) (fun hc3=>?_)
  ·try simp only [dz] at hc3
   refine A4 fun _ K18=>wM I I<|wA I I<|wA I I<|A3 K18<|AK ?_
   exact hret.go ⟨(m4,2),by(try dsimp only);omega,by(try dsimp only);omega⟩ (OV rfl rfl rfl)
  try simp only [dz] at hc3
  refine A4 fun _ K19=>wM I I<|wA I I<|wA I I<|A3 K19<|AK ?_
  exact hret.go ⟨(m4,0),by(try dsimp only);omega,by(try dsimp only);omega⟩ (OV rfl rfl rfl)
 try simp only [dz] at hc0
 omega

theorem ZG{ga cap n a b:Nat}{l:List Bv}(hl:l.length=n)(hn:n<=1000)(hab:a<b)(hb:b<=n):Ct Tryz.prog 109 [sl (some ga) n cap,.int .i64 ((a:Nat):Int),.int .i64 ((b:Nat):Int)] [Aa (some ga) cap 1 42 (eU .u32 (w:=32)) l] (fun g: {m:List Bv // SwR a b l m} =>.tuple #[]) (fun g=> [Aa (some ga) cap 1 42 (eU .u32 (w:=32)) g.1]):=by
 refine AY (n:=32) Tryz.func109 I I I fun F w0 Q hret hnorm hp=>?_
 change WC _ _ _ _ _ _ _ (_::F)
 refine A4 fun _ K1=>wM rfl rfl<|wA rfl rfl<|A3 K1<|A4 fun _ K2=>wM rfl rfl<|A2 (Ax (j:=1) rfl rfl) rfl<|wA rfl rfl<|A3 K2<|AG<|Ak (σ:=Nat × Nat × (List Bv)) (fun ⟨i,j,w⟩=> [(6,.int .i64 ((i:Nat):Int)),(7,.int .i64 ((j:Nat):Int))]) (fun ⟨i,j,w⟩=> [Aa (some ga) cap 1 42 (eU .u32 (w:=32)) w]) (fun ⟨i,j,w⟩=>(a<=i/\j<b/\i<=b)/\SwR a b l w/\w.length=n) (fun ⟨i,j,w⟩=>b -i) ⟨a,b -1,l⟩ [0] Cw D8 ?_ ?_ Sub.refl ?_
 ·exact⟨by omega,.refl,hl⟩
 ·(try dsimp only);exact(Wk.cons Ch (Wk.cons Ch Wk.nil))
 rintro⟨i,j,w⟩ ⟨hi,hsw,hwl⟩ K3 K3
 simp only [List.cons_append,List.nil_append]
 refine A7 fun _ K4=>A4 fun _ K5=>wM I I<|wM I I<|A2 (An I I) I<|A3 K5<|AH I (fun hc0=>?_) (fun hc0=>?_)
 ·try simp only [dz] at hc0
  refine AA<|A5 K4<|AG<|A7 fun _ K6=>Am CE (jz [13,15] 16) ?_
  refine jM 0 I I I hp<|jM 1 I I I hp<|jM 2 I I I hp<|jM 3 I I I hp<|jM 4 I I I hp<|jM 5 I I I hp<|jP 6 I (AT (j) I I B2 BI (hj:=by omega)) I hp ?_
  refine jT 7 I (AU (i:=j) (j:=0) I BX (hl:=BY (l:=w) (by omega))) I hp AQ ?_
  refine jM 8 I I I hp<|jM 9 I I I hp<|jP 10 I (AT (i) I I B2 BI (hj:=by omega)) I hp ?_
  refine jT 11 I (AU (i:=i) (j:=0) I BX (hl:=BY (l:=w) (by omega))) I hp AQ ?_
  refine jP 12 I (AT (i) I I B2 BI (hj:=by omega)) I hp ?_
  refine jO 13<|EN I (Aq (w.getD (j) 0#32) I I BI (i:=i) (j:=0) (hl:=BY (l:=w) (by omega))) I ?_
  rintro _ _ rfl
  refine jP 14 I (AT (j) I I B2 BI (hj:=by omega)) I hp ?_
  refine jO 15<|EN I (Aq (w.getD (i) 0#32) I I BI (i:=j) (j:=0) (hl:=BY (by rw [List.length_set];omega))) I ?_
  rintro _ _ rfl
  refine jD<|A5 K6<|A4 fun _ K7=>?_
  rw [show (w.set (i) (w.getD (j) 0#32)).set (j) (w.getD (i) 0#32)=Ex w (i) (j) from rfl]
  refine wM I I<|A2 (AN (j:=1) I I) I<|wA I I<|A3 K7<|AD<|wM I I<|A2 (Ax (j:=1) I I) I<|wA I I<|AW<|Av (K3 ⟨i+1,j -1,Ex w i j⟩ (⟨by (try dsimp only);omega,.step hsw (by omega) (by omega) (by omega) (by omega),by(try dsimp only);rw [D6];exact hwl⟩) (by (try dsimp only);omega))
 try simp only [dz] at hc0
 refine Aj ?_
 exact hnorm.go ⟨w,hsw⟩ (Ke rfl)
end Go.Proofs.YtoakfknnaiapiaaGreat
