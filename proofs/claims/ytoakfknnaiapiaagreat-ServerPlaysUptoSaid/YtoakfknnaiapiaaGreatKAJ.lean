/-
  Contracts of functions that the claim reaches, or the logic and the plain laws that they rest on, or the row over them. (Conditions: none beyond the statement.)
-/
import Derived.Test.YtoakfknnaiapiaaGreatKAI
import Derived.Test.YtoakfknnaiapiaaGreatKAF
import Derived.Test.YtoakfknnaiapiaaGreatKAA
import Derived.Test.YtoakfknnaiapiaaGreatKAB
import Derived.Test.YtoakfknnaiapiaaGreatKAG
import Derived.Test.YtoakfknnaiapiaaGreatKAE
set_option linter.all false
namespace Go.Proofs.YtoakfknnaiapiaaGreat
open Go.RowKit Go.SL Go.ShM Go.SvM Go.Proofs Go.Shelf Go.Sort Go.Lib
set_option maxHeartbeats 1000000
set_option maxRecDepth 20000
set_option linter.all false
theorem gA:DF Tryz.prog 106=true:=by kernel_rfl
theorem g9:DF Tryz.prog 107=true:=by kernel_rfl
theorem g8:DF Tryz.prog 108=true:=by kernel_rfl
theorem g7:DF Tryz.prog 109=true:=by kernel_rfl
theorem g6:DF Tryz.prog 110=true:=by kernel_rfl
theorem YE:DF Tryz.prog 112=true:=by kernel_rfl
theorem ON:DF Tryz.prog 113=true:=by kernel_rfl
theorem ZL{ga cap n k a b:Nat}{l:List Bv}{lim:Int}(hl:l.length=n)(hn:n<=1000)(hab:a<=b)(hb:b<=n)(hlb:LB l a b)(hk:b -a=k)(hlim:0<=lim/\lim<=100)(ih: ∀(a b:Nat) (l:List Bv) (lim:Int),b -a<k ->a<=b ->b<=n ->l.length=n ->LB l a b ->(0<=lim/\lim<=100) ->Ct Tryz.prog 85 [sl (some ga) n cap,.int .i64 ((a:Nat):Int),.int .i64 ((b:Nat):Int),.int .i64 lim] [Aa (some ga) cap 1 42 (eU .u32 (w:=32)) l] (fun _: {m:List Bv // SwR a b l m/\G1 m a b} =>.tuple #[]) (fun g=> [Aa (some ga) cap 1 42 (eU .u32 (w:=32)) g.1])):Ct Tryz.prog 85 [sl (some ga) n cap,.int .i64 ((a:Nat):Int),.int .i64 ((b:Nat):Int),.int .i64 lim] [Aa (some ga) cap 1 42 (eU .u32 (w:=32)) l] (fun g: {m:List Bv // SwR a b l m/\G1 m a b} =>.tuple #[]) (fun g=> [Aa (some ga) cap 1 42 (eU .u32 (w:=32)) g.1]):=by
 refine AY (n:=134) Tryz.func85 I I I fun F w0 Q hret hnorm hp=>?_
 change WC _ _ _ _ _ _ _ (_::F)
 refine A4 fun _ K1=>wA rfl rfl<|A3 K1<|A4 fun _ K2=>wA rfl rfl<|A3 K2<|AG<|Ak (σ:=Nat × Nat × Int × Bool × Bool × (List Bv)) (fun ⟨c,d,lm,wb,wp,w⟩=> [(1,.int .i64 ((c:Nat):Int)),(2,.int .i64 ((d:Nat):Int)),(3,.int .i64 lm),(8,.bool wb),(9,.bool wp)]) (fun ⟨c,d,lm,wb,wp,w⟩=> [Aa (some ga) cap 1 42 (eU .u32 (w:=32)) w]) (fun ⟨c,d,lm,wb,wp,w⟩=>(a<=c/\c<=d/\d<=b)/\(0<=lm/\lm<=100)/\SwR a b l w/\Jb w a b c d/\w.length=n) (fun ⟨c,d,lm,wb,wp,w⟩=>d -c) ⟨a,b,lim,true,true,l⟩ [0] Cw D8 ?_ ?_ Sub.refl ?_
 ·exact⟨by omega,hlim,.refl,QS,hl⟩
 ·(try dsimp only);exact(Wk.cons Ch (Wk.cons Ch (Wk.cons Ch (Wk.cons Ch (Wk.cons Ch Wk.nil)))))
 rintro⟨c,d,lm,wb,wp,w⟩ ⟨hcd,hlm0,hsw,hor,hwl⟩ K3 K3
 simp only [List.cons_append,List.nil_append]
 refine AG<|A4 fun _ K4=>wM I I<|wM I I<|A2 (Ax I I) I<|wA I I<|A3 K4<|A7 fun _ K5=>A4 fun _ K6=>wM I I<|A2 (D5 (j:=12) I I) I ?_
 refine A3 K6<|AH I (fun hc0=>?_) (fun hc0=>?_)
 ·try simp only [dz] at hc0
  refine A4 fun _ K7=>wM I I<|wM I I<|wM I I<|AB (AE cC I (hs:=Zm (l:=w) (a:=c) (b:=d) hwl hn (by omega) (by omega))) I I I ?_
  rintro _ _ ⟨⟨m,hsm,hom⟩,rfl,hA⟩
  simp only [ca] at hA
  subst hA
  refine A3 K7<|AK ?_
  exact hret.go ⟨m,hsw.trans ((hsm).wide hcd.1 hcd.2.2),Ml (EA hor hsm hcd.1 hcd.2.2 (by omega)) hom⟩ (Ke rfl)
 try simp only [dz] at hc0
 refine AA<|A5 K5<|A7 fun _ K8=>A4 fun _ K9=>wM I I<|A2 (CW I I) I<|A3 K9<|AH I (fun hc1=>?_) (fun hc1=>?_)
 ·try simp only [dz] at hc1
  refine A4 fun _ K10=>wM I I<|wM I I<|wM I I<|AB (AE gA I (hs:=Zs (l:=w) (a:=c) (b:=d) hwl hn (by omega) (by omega))) I I I ?_
  rintro _ _ ⟨⟨m,hsm,hom⟩,rfl,hA⟩
  simp only [ca] at hA
  subst hA
  refine A3 K10<|AK ?_
  exact hret.go ⟨m,hsw.trans ((hsm).wide hcd.1 hcd.2.2),Ml (EA hor hsm hcd.1 hcd.2.2 (by omega)) hom⟩ (Ke rfl)
 try simp only [dz] at hc1
 have hlc:=gX hor (hlb.sw hsw (by omega)) hcd.1 hcd.2.2
 refine AA<|A5 K8<|A7 fun _ K11=>A4 fun _ K12=>wM rfl rfl<|A2 (Au rfl) rfl<|A3 K12<|Cx (B0:= [Aa (some ga) cap 1 42 (eU .u32 (w:=32)) w]) (σ:=Int × (List Bv)) (fun ⟨lm1,w1⟩=> [(3,.int .i64 lm1)]) (fun ⟨lm1,w1⟩=> [Aa (some ga) cap 1 42 (eU .u32 (w:=32)) w1]) (fun ⟨lm1,w1⟩=>(0<=lm1/\lm1<=100)/\SwR c d w w1) [0,1,2,8,9,10,11,12,13,14,15,16,17,18,19,20,21,22,23,24,25,26,28,29,30,31,32,34,35,42,43,44,45,46,47,48,49,50,51,52,53,55,56,57,58,59,60,61,62,63,64,65,66,67,68,69,70,71,72,73,74,75,76,77,78,79,80,81,82,83,84,85,86,87,88,89,90,91,92,93,94,95,96,97,98,99,100,101,102,103,104,105,106,107,108,109,110,111,112,113,114,115,116,117,118,119,120,122,123,124,125,126,127,128,129,130,131,133] Cw D8 ?_ ?_
 ·intro K13
  refine AH I (fun hc2=>?_) (fun hc2=>?_)
  ·try simp only [dz] at hc2
   refine A4 fun _ K14=>wM I I<|wM I I<|wM I I<|AB (AE g9 I (hs:=eC (l:=w) (a:=c) (b:=d) hwl hn (by omega) (by omega))) I I I ?_
   rintro _ _ ⟨⟨m,hsm⟩,rfl,hA⟩
   simp only [ca] at hA
   subst hA
   refine A3 K14<|AD<|wM I I<|A2 (GY I I (JV I (by omega) (by omega))) I ?_
   refine wA I I<|AW<|Av (K13 ⟨lm -1,m⟩ (⟨by (try dsimp only);omega,hsm⟩))
  try simp only [dz] at hc2
  refine AA<|Av (K13 ⟨lm,w⟩ (⟨hlm0,.refl⟩))
 rintro⟨lm1,w1⟩ ⟨hl1,hs1⟩
 simp only [List.cons_append,List.nil_append]
 refine A5 K11<|A4 fun _ K15=>wM I I<|wM I I<|wM I I<|AB (AE g8 I (hs:=cj (l:=w1) (a:=c) (b:=d) (by rw [hs1.len];exact hwl) hn (by omega) (by omega))) I I I ?_
 rintro _ _ ⟨⟨⟨pv,ht⟩,hpv,hht⟩,rfl,hA⟩
 simp only [ca] at hA
 subst hA
 dsimp only at hpv hht ⊢
 refine wM rfl rfl<|A2 (BE rfl) rfl<|A2 (BN rfl) rfl<|wA rfl rfl<|wA rfl rfl<|A3 K15<|A7 fun _ K16=>A4 fun _ K17=>wM rfl rfl<|A2 (Ab (j:=2) rfl rfl) rfl<|A3 K17<|Cx (B0:= [Aa (some ga) cap 1 42 (eU .u32 (w:=32)) w1]) (σ:=Nat × Nat × (List Bv)) (fun ⟨p,ht2,w2⟩=> [(11,.int .i64 ((p:Nat):Int)),(12,.int .i64 ((ht2:Nat):Int))]) (fun ⟨p,ht2,w2⟩=> [Aa (some ga) cap 1 42 (eU .u32 (w:=32)) w2]) (fun ⟨p,ht2,w2⟩=>(c<=p/\p<d)/\SwR c d w w2) [0,1,2,3,8,9,10,13,14,15,16,17,18,19,20,21,22,23,24,25,26,28,29,30,31,32,34,35,36,37,38,40,41,42,43,44,45,46,47,48,49,50,61,62,63,64,65,66,67,68,69,70,71,72,73,74,75,76,77,78,79,80,81,82,83,84,85,86,87,88,89,90,91,92,93,94,95,96,97,98,99,100,101,102,103,104,105,106,107,108,109,110,111,112,113,114,115,116,117,118,119,120,122,123,124,125,126,127,128,129,130,131,133] Cw D8 ?_ ?_
 ·intro K18
  refine AH I (fun hc3=>?_) (fun hc3=>?_)
  ·try simp only [dz] at hc3
   refine A4 fun _ K19=>wM I I<|wM I I<|wM I I<|AB (AE g7 I (hs:=ZG (l:=w1) (a:=c) (b:=d) (by rw [hs1.len];exact hwl) hn (by omega) (by omega))) I I I ?_
   rintro _ _ ⟨⟨m,hsm⟩,rfl,hA⟩
   simp only [ca] at hA
   subst hA
   refine A3 K19<|A4 fun _ K20=>wM I I<|A2 (Ax (j:=1) I I) I<|wM I I<|wM I I<|A2 (Ax I I) I<|A2 (Ax I I) I<|wA I I<|A3 K20<|AD<|wA I I<|AW<|Av (K18 ⟨d -1 -(pv -c),1,m⟩ (⟨by (try dsimp only);omega,hs1.trans hsm⟩))
  try simp only [dz] at hc3
  refine AA<|Av (K18 ⟨pv,ht,w1⟩ (⟨hpv,hs1⟩))
 rintro⟨p,ht2,w2⟩ ⟨hp2,hs2⟩
 simp only [List.cons_append,List.nil_append]
 refine A5 K16<|A7 fun _ K21=>A4 fun _ K22=>wM I I<|wM I I<|Ae 62 I (fun hg23=>?_) (fun hg23=>?_)
 ·try simp only [dz] at hg23
  refine wM I I<|A2 (AC I I) I<|wM I I<|Ae 65 I (fun hg24=>?_) (fun hg24=>?_)
  ·try simp only [dz] at hg24
   refine wM I I<|A2 (Ab (j:=1) I I) I<|A2 (AC I I) I<|A3 K22<|Cx (B0:= [Aa (some ga) cap 1 42 (eU .u32 (w:=32)) w2]) (σ:=(List Bv)) (fun w3=> []) (fun w3=> [Aa (some ga) cap 1 42 (eU .u32 (w:=32)) w3]) (fun w3=>SwR c d w w3) [0,1,2,3,8,9,10,11,12,13,14,15,16,17,18,19,20,21,22,23,24,25,26,28,29,30,31,32,34,35,36,37,38,40,41,42,43,44,45,46,47,48,49,50,51,52,53,55,56,57,58,59,60,61,62,63,64,65,66,67,68,73,74,75,76,77,78,79,80,81,82,83,84,85,86,87,88,89,90,91,92,93,94,95,96,97,98,99,100,101,102,103,104,105,106,107,108,109,110,111,112,113,114,115,116,117,118,119,120,122,123,124,125,126,127,128,129,130,131,133] Cw D8 ?_ ?_
   ·intro K25
    refine AH I (fun hc4=>?_) (fun hc4=>?_)
    ·try simp only [dz] at hc4
     refine A4 fun _ K26=>wM I I<|wM I I<|wM I I<|AB (AE g6 I (hs:=ZJ (l:=w2) (a:=c) (b:=d) (by rw [hs2.len];exact hwl) hn (by omega) (by omega) (hlc.sw hs2 (by omega)))) I I I ?_
     rintro _ _ ⟨⟨⟨ok,m⟩,hsm,hom⟩,rfl,hA⟩
     simp only [ca] at hA
     subst hA
     dsimp only at hsm hom ⊢
     refine A3 K26<|AH I (fun hc5=>?_) (fun hc5=>?_)
     ·try simp only [dz] at hc5
      refine AK ?_
      exact hret.go ⟨m,hsw.trans ((hs2.trans hsm).wide hcd.1 hcd.2.2),Ml (EA hor (hs2.trans hsm) hcd.1 hcd.2.2 (by omega)) (hom hc5)⟩ (Ke rfl)
     try simp only [dz] at hc5
     refine AA<|Av (K25 (m) (hs2.trans hsm))
    try simp only [dz] at hc4
    refine AA<|Av (K25 (w2) (hs2))
   rintro w3 hs3
   simp only [List.cons_append,List.nil_append]
   have hw3l:w3.length=n:=by rw [hs3.len];exact hwl
   refine A5 K21<|A7 fun _ K27=>A7 fun _ K28=>BC CE [Aa (some ga) cap 1 42 (eU .u32 (w:=32)) w3] (fun i=>([2,2,2,2,2,2,2,2,2,2,2,2,1,2,2]:List Nat).getD i 0) ?_
   refine jM 0 I I I hp<|jP 1 I (Bz (j:=0) I I) I hp ?_
   refine jM 2 I I I hp<|Be 75 I (fun hg29=>?_) (fun hg29=>?_)
   ·try simp only [dz] at hg29
    refine jM 3 I I I hp<|jM 4 I I I hp<|jP 5 I (Ax (j:=1) I I) I hp<|jP 6 I (AT (c -1) I I B2 BI (hj:=by omega)) I hp ?_
    refine jT 7 I (AU (i:=c -1) (j:=0) I BX (hl:=BY (l:=w3) (by omega))) I hp AQ ?_
    refine jM 8 I I I hp<|jM 9 I I I hp<|jP 10 I (AT (p) I I B2 BI (hj:=by omega)) I hp ?_
    refine jT 11 I (AU (i:=p) (j:=0) I BX (hl:=BY (l:=w3) (by omega))) I hp AQ ?_
    refine jO 12<|B7 I (AE FC I (hs:=D3 (x:=w3.getD (c -1) 0#32) (y:=w3.getD (p) 0#32))) I I I I ?_
    rintro _ _ ⟨⟨⟩,rfl,hA⟩
    simp only [ca] at hA
    subst hA
    refine⟨(fun _=>AQ),?_⟩
    refine jP 13 I (Au I) I hp<|jP 14 I (AC I I) I hp<|jD<|A5 K28<|AH I (fun hc6=>?_) (fun hc6=>?_)
    ·try simp only [dz] at hc6
     have hle:vA w3 p<=vA w3 (c -1):=by unfold vA at *;omega
     have hc0:0<c:=by omega
     refine A4 fun _ K30=>wM I I<|wM I I<|wM I I<|wM I I<|AB (AE YE I (hs:=Mk (l:=w3) (a:=c) (b:=d) (p:=p) (by rw [hs3.len];exact hwl) hn (by omega) (by omega) (by omega))) I I I ?_
     rintro _ _ ⟨⟨⟨mid,m⟩,hsm,hmid,hme⟩,rfl,hA⟩
     simp only [ca] at hA
     subst hA
     dsimp only at hsm hmid hme ⊢
     refine wA I I<|A3 K30<|A4 fun _ K31=>wM I I<|wA I I<|A3 K31<|Aj<|Av (K3 ⟨mid,d,lm1,wb,wp,m⟩ (⟨by (try dsimp only);omega,hl1,hsw.trans ((hs3.trans hsm).wide hcd.1 hcd.2.2),Mm (v:=vA w3 p) (EA hor (hs3.trans hsm) hcd.1 hcd.2.2 (by omega)) (hlc.sw (hs3.trans hsm) (by omega)) hc0 (by rw [hsm.out (k:=c -1) (by rw [hs3.len];omega) (.inl (by omega))];exact hle) hme hcd.1 (by omega) hcd.2.2,by(try dsimp only);rw [hsm.len,hs3.len];exact hwl⟩) (by (try dsimp only);omega))
    try simp only [dz] at hc6
    refine AA<|A5 K27<|A4 fun _ K32=>wM I I<|wM I I<|wM I I<|wM I I<|AB (AE ON I (hs:=Iy (l:=w3) (a:=c) (b:=d) (p:=p) (by rw [hs3.len];exact hwl) hn (by omega) (by omega) (by omega))) I I I ?_
    rintro _ _ ⟨⟨⟨mid,alr,m⟩,hsm,hcut⟩,rfl,hA⟩
    simp only [ca] at hA
    subst hA
    dsimp only at hsm hcut ⊢
    have hml:m.length=n:=by rw [hsm.len,hs3.len];exact hwl
    have hm1:=hcut.lo
    have hm2:=hcut.hi
    have hom:=EA hor (hs3.trans hsm) hcd.1 hcd.2.2 (by omega)
    have hlm:=hlc.sw (hs3.trans hsm) (by omega)
    refine wM I I<|A2 (BE I) I<|A2 (BN I) I<|wA I I<|wA I I<|A3 K32<|A4 fun _ K33=>wM I I<|wA I I<|A3 K33<|A4 fun _ K34=>wM I I<|wM I I<|A2 (Ax I I) I<|wM I I ?_
    refine wM I I<|A2 (Ax I I) I<|wA I I<|wA I I<|A3 K34<|A4 fun _ K35=>wM I I<|A2 (F4 (j:=8) I I) I ?_
    refine wA I I<|A3 K35<|A4 fun _ K36=>wM I I<|wM I I<|A2 (An I I) I<|A3 K36<|AH I (fun hc7=>?_) (fun hc7=>?_)
    ·try simp only [dz] at hc7
     refine A4 fun _ K37=>wM I I<|wM I I<|A2 (Bl I I) I ?_
     refine wA I I<|A3 K37<|A4 fun _ K38=>wM I I<|wM I I<|wM I I<|wM I I<|AB (AE KX I (hs:=ih c mid m lm1 (by omega) (by omega) (by omega) hml (hlm.sub (by omega)) hl1)) I I I ?_
     rintro _ _ ⟨⟨m2,hsm2,hom2⟩,rfl,hA⟩
     simp only [ca] at hA
     subst hA
     refine A3 K38<|AD<|wM I I<|A2 (AN (j:=1) I I) I<|wA I I<|AW<|Av (K3 ⟨mid+1,d,lm1,decide ((d -c) / 8<=mid -c),alr,m2⟩ (⟨by (try dsimp only);omega,hl1,hsw.trans (((hs3.trans hsm).trans (hsm2.wide (Nat.le_refl _) (by omega))).wide hcd.1 hcd.2.2),hcut.left hom hsm2 hom2 hcd.1 hcd.2.2 (by omega),by(try dsimp only);rw [hsm2.len];exact hml⟩) (by (try dsimp only);omega))
    try simp only [dz] at hc7
    refine A4 fun _ K39=>wM I I<|wM I I<|A2 (Bl I I) I ?_
    refine wA I I<|A3 K39<|A4 fun _ K40=>wM I I<|wM I I<|A2 (AN (j:=1) I I) I<|wM I I<|wM I I<|AB (AE KX I (hs:=ih (mid+1) d m lm1 (by omega) (by omega) (by omega) hml hcut.lbR hl1)) I I I ?_
    rintro _ _ ⟨⟨m2,hsm2,hom2⟩,rfl,hA⟩
    simp only [ca] at hA
    subst hA
    refine A3 K40<|AD<|wM I I<|wA I I<|AW<|Av (K3 ⟨c,mid,lm1,decide ((d -c) / 8<=d -mid),alr,m2⟩ (⟨by (try dsimp only);omega,hl1,hsw.trans (((hs3.trans hsm).trans (hsm2.wide (by omega) (Nat.le_refl _))).wide hcd.1 hcd.2.2),hcut.right hom hsm2 hom2 hcd.1 hcd.2.2 (by omega),by(try dsimp only);rw [hsm2.len];exact hml⟩) (by (try dsimp only);omega))
   try simp only [dz] at hg29
   refine jK 3 I I hp<|jK 4 I I hp<|jK 5 I I hp<|jK 6 I I hp<|jK 7 I I hp<|jK 8 I I hp<|jK 9 I I hp<|jK 10 I I hp<|jK 11 I I hp<|jO 12<|CN I I I I (fun _=>AQ) ?_
   refine jK 13 I I hp<|jP 14 I (A8 I I) I hp<|jD<|A5 K28<|AM I<|AA<|A5 K27<|A4 fun _ K41=>wM I I<|wM I I<|wM I I<|wM I I<|AB (AE ON I (hs:=Iy (l:=w3) (a:=c) (b:=d) (p:=p) (by rw [hs3.len];exact hwl) hn (by omega) (by omega) (by omega))) I I I ?_
   rintro _ _ ⟨⟨⟨mid,alr,m⟩,hsm,hcut⟩,rfl,hA⟩
   simp only [ca] at hA
   subst hA
   dsimp only at hsm hcut ⊢
   have hml:m.length=n:=by rw [hsm.len,hs3.len];exact hwl
   have hm1:=hcut.lo
   have hm2:=hcut.hi
   have hom:=EA hor (hs3.trans hsm) hcd.1 hcd.2.2 (by omega)
   have hlm:=hlc.sw (hs3.trans hsm) (by omega)
   refine wM I I<|A2 (BE I) I<|A2 (BN I) I<|wA I I<|wA I I<|A3 K41<|A4 fun _ K42=>wM I I<|wA I I<|A3 K42<|A4 fun _ K43=>wM I I<|wM I I<|A2 (Ax I I) I<|wM I I ?_
   refine wM I I<|A2 (Ax I I) I<|wA I I<|wA I I<|A3 K43<|A4 fun _ K44=>wM I I<|A2 (F4 (j:=8) I I) I ?_
   refine wA I I<|A3 K44<|A4 fun _ K45=>wM I I<|wM I I<|A2 (An I I) I<|A3 K45<|AH I (fun hc7=>?_) (fun hc7=>?_)
   ·try simp only [dz] at hc7
    refine A4 fun _ K46=>wM I I<|wM I I<|A2 (Bl I I) I ?_
    refine wA I I<|A3 K46<|A4 fun _ K47=>wM I I<|wM I I<|wM I I<|wM I I<|AB (AE KX I (hs:=ih c mid m lm1 (by omega) (by omega) (by omega) hml (hlm.sub (by omega)) hl1)) I I I ?_
    rintro _ _ ⟨⟨m2,hsm2,hom2⟩,rfl,hA⟩
    simp only [ca] at hA
    subst hA
    refine A3 K47<|AD<|wM I I<|A2 (AN (j:=1) I I) I<|wA I I<|AW<|Av (K3 ⟨mid+1,d,lm1,decide ((d -c) / 8<=mid -c),alr,m2⟩ (⟨by (try dsimp only);omega,hl1,hsw.trans (((hs3.trans hsm).trans (hsm2.wide (Nat.le_refl _) (by omega))).wide hcd.1 hcd.2.2),hcut.left hom hsm2 hom2 hcd.1 hcd.2.2 (by omega),by(try dsimp only);rw [hsm2.len];exact hml⟩) (by (try dsimp only);omega))
   try simp only [dz] at hc7
   refine A4 fun _ K48=>wM I I<|wM I I<|A2 (Bl I I) I ?_
   refine wA I I<|A3 K48<|A4 fun _ K49=>wM I I<|wM I I<|A2 (AN (j:=1) I I) I<|wM I I<|wM I I<|AB (AE KX I (hs:=ih (mid+1) d m lm1 (by omega) (by omega) (by omega) hml hcut.lbR hl1)) I I I ?_
   rintro _ _ ⟨⟨m2,hsm2,hom2⟩,rfl,hA⟩
   simp only [ca] at hA
   subst hA
   refine A3 K49<|AD<|wM I I<|wA I I<|AW<|Av (K3 ⟨c,mid,lm1,decide ((d -c) / 8<=d -mid),alr,m2⟩ (⟨by (try dsimp only);omega,hl1,hsw.trans (((hs3.trans hsm).trans (hsm2.wide (by omega) (Nat.le_refl _))).wide hcd.1 hcd.2.2),hcut.right hom hsm2 hom2 hcd.1 hcd.2.2 (by omega),by(try dsimp only);rw [hsm2.len];exact hml⟩) (by (try dsimp only);omega))
  try simp only [dz] at hg24
  refine wK I<|wK I<|A2 (A8 I I) I<|A3 K22<|Cx (B0:= [Aa (some ga) cap 1 42 (eU .u32 (w:=32)) w2]) (σ:=(List Bv)) (fun w3=> []) (fun w3=> [Aa (some ga) cap 1 42 (eU .u32 (w:=32)) w3]) (fun w3=>SwR c d w w3) [0,1,2,3,8,9,10,11,12,13,14,15,16,17,18,19,20,21,22,23,24,25,26,28,29,30,31,32,34,35,36,37,38,40,41,42,43,44,45,46,47,48,49,50,51,52,53,55,56,57,58,59,60,61,62,63,64,65,66,67,68,73,74,75,76,77,78,79,80,81,82,83,84,85,86,87,88,89,90,91,92,93,94,95,96,97,98,99,100,101,102,103,104,105,106,107,108,109,110,111,112,113,114,115,116,117,118,119,120,122,123,124,125,126,127,128,129,130,131,133] Cw D8 ?_ ?_
  ·intro K50
   refine AM I<|AA<|Av (K50 (w2) (hs2))
  rintro w3 hs3
  simp only [List.cons_append,List.nil_append]
  have hw3l:w3.length=n:=by rw [hs3.len];exact hwl
  refine A5 K21<|A7 fun _ K51=>A7 fun _ K52=>BC CE [Aa (some ga) cap 1 42 (eU .u32 (w:=32)) w3] (fun i=>([2,2,2,2,2,2,2,2,2,2,2,2,1,2,2]:List Nat).getD i 0) ?_
  refine jM 0 I I I hp<|jP 1 I (Bz (j:=0) I I) I hp ?_
  refine jM 2 I I I hp<|Be 75 I (fun hg53=>?_) (fun hg53=>?_)
  ·try simp only [dz] at hg53
   refine jM 3 I I I hp<|jM 4 I I I hp<|jP 5 I (Ax (j:=1) I I) I hp<|jP 6 I (AT (c -1) I I B2 BI (hj:=by omega)) I hp ?_
   refine jT 7 I (AU (i:=c -1) (j:=0) I BX (hl:=BY (l:=w3) (by omega))) I hp AQ ?_
   refine jM 8 I I I hp<|jM 9 I I I hp<|jP 10 I (AT (p) I I B2 BI (hj:=by omega)) I hp ?_
   refine jT 11 I (AU (i:=p) (j:=0) I BX (hl:=BY (l:=w3) (by omega))) I hp AQ ?_
   refine jO 12<|B7 I (AE FC I (hs:=D3 (x:=w3.getD (c -1) 0#32) (y:=w3.getD (p) 0#32))) I I I I ?_
   rintro _ _ ⟨⟨⟩,rfl,hA⟩
   simp only [ca] at hA
   subst hA
   refine⟨(fun _=>AQ),?_⟩
   refine jP 13 I (Au I) I hp<|jP 14 I (AC I I) I hp<|jD<|A5 K52<|AH I (fun hc6=>?_) (fun hc6=>?_)
   ·try simp only [dz] at hc6
    have hle:vA w3 p<=vA w3 (c -1):=by unfold vA at *;omega
    have hc0:0<c:=by omega
    refine A4 fun _ K54=>wM I I<|wM I I<|wM I I<|wM I I<|AB (AE YE I (hs:=Mk (l:=w3) (a:=c) (b:=d) (p:=p) (by rw [hs3.len];exact hwl) hn (by omega) (by omega) (by omega))) I I I ?_
    rintro _ _ ⟨⟨⟨mid,m⟩,hsm,hmid,hme⟩,rfl,hA⟩
    simp only [ca] at hA
    subst hA
    dsimp only at hsm hmid hme ⊢
    refine wA I I<|A3 K54<|A4 fun _ K55=>wM I I<|wA I I<|A3 K55<|Aj<|Av (K3 ⟨mid,d,lm1,wb,wp,m⟩ (⟨by (try dsimp only);omega,hl1,hsw.trans ((hs3.trans hsm).wide hcd.1 hcd.2.2),Mm (v:=vA w3 p) (EA hor (hs3.trans hsm) hcd.1 hcd.2.2 (by omega)) (hlc.sw (hs3.trans hsm) (by omega)) hc0 (by rw [hsm.out (k:=c -1) (by rw [hs3.len];omega) (.inl (by omega))];exact hle) hme hcd.1 (by omega) hcd.2.2,by(try dsimp only);rw [hsm.len,hs3.len];exact hwl⟩) (by (try dsimp only);omega))
   try simp only [dz] at hc6
   refine AA<|A5 K51<|A4 fun _ K56=>wM I I<|wM I I<|wM I I<|wM I I<|AB (AE ON I (hs:=Iy (l:=w3) (a:=c) (b:=d) (p:=p) (by rw [hs3.len];exact hwl) hn (by omega) (by omega) (by omega))) I I I ?_
   rintro _ _ ⟨⟨⟨mid,alr,m⟩,hsm,hcut⟩,rfl,hA⟩
   simp only [ca] at hA
   subst hA
   dsimp only at hsm hcut ⊢
   have hml:m.length=n:=by rw [hsm.len,hs3.len];exact hwl
   have hm1:=hcut.lo
   have hm2:=hcut.hi
   have hom:=EA hor (hs3.trans hsm) hcd.1 hcd.2.2 (by omega)
   have hlm:=hlc.sw (hs3.trans hsm) (by omega)
   refine wM I I<|A2 (BE I) I<|A2 (BN I) I<|wA I I<|wA I I<|A3 K56<|A4 fun _ K57=>wM I I<|wA I I<|A3 K57<|A4 fun _ K58=>wM I I<|wM I I<|A2 (Ax I I) I<|wM I I ?_
   refine wM I I<|A2 (Ax I I) I<|wA I I<|wA I I<|A3 K58<|A4 fun _ K59=>wM I I<|A2 (F4 (j:=8) I I) I ?_
   refine wA I I<|A3 K59<|A4 fun _ K60=>wM I I<|wM I I<|A2 (An I I) I<|A3 K60<|AH I (fun hc7=>?_) (fun hc7=>?_)
   ·try simp only [dz] at hc7
    refine A4 fun _ K61=>wM I I<|wM I I<|A2 (Bl I I) I ?_
    refine wA I I<|A3 K61<|A4 fun _ K62=>wM I I<|wM I I<|wM I I<|wM I I<|AB (AE KX I (hs:=ih c mid m lm1 (by omega) (by omega) (by omega) hml (hlm.sub (by omega)) hl1)) I I I ?_
    rintro _ _ ⟨⟨m2,hsm2,hom2⟩,rfl,hA⟩
    simp only [ca] at hA
    subst hA
    refine A3 K62<|AD<|wM I I<|A2 (AN (j:=1) I I) I<|wA I I<|AW<|Av (K3 ⟨mid+1,d,lm1,decide ((d -c) / 8<=mid -c),alr,m2⟩ (⟨by (try dsimp only);omega,hl1,hsw.trans (((hs3.trans hsm).trans (hsm2.wide (Nat.le_refl _) (by omega))).wide hcd.1 hcd.2.2),hcut.left hom hsm2 hom2 hcd.1 hcd.2.2 (by omega),by(try dsimp only);rw [hsm2.len];exact hml⟩) (by (try dsimp only);omega))
   try simp only [dz] at hc7
   refine A4 fun _ K63=>wM I I<|wM I I<|A2 (Bl I I) I ?_
   refine wA I I<|A3 K63<|A4 fun _ K64=>wM I I<|wM I I<|A2 (AN (j:=1) I I) I<|wM I I<|wM I I<|AB (AE KX I (hs:=ih (mid+1) d m lm1 (by omega) (by omega) (by omega) hml hcut.lbR hl1)) I I I ?_
   rintro _ _ ⟨⟨m2,hsm2,hom2⟩,rfl,hA⟩
   simp only [ca] at hA
   subst hA
   refine A3 K64<|AD<|wM I I<|wA I I<|AW<|Av (K3 ⟨c,mid,lm1,decide ((d -c) / 8<=d -mid),alr,m2⟩ (⟨by (try dsimp only);omega,hl1,hsw.trans (((hs3.trans hsm).trans (hsm2.wide (by omega) (Nat.le_refl _))).wide hcd.1 hcd.2.2),hcut.right hom hsm2 hom2 hcd.1 hcd.2.2 (by omega),by(try dsimp only);rw [hsm2.len];exact hml⟩) (by (try dsimp only);omega))
  try simp only [dz] at hg53
  refine jK 3 I I hp<|jK 4 I I hp<|jK 5 I I hp<|jK 6 I I hp<|jK 7 I I hp<|jK 8 I I hp<|jK 9 I I hp<|jK 10 I I hp<|jK 11 I I hp<|jO 12<|CN I I I I (fun _=>AQ) ?_
  refine jK 13 I I hp<|jP 14 I (A8 I I) I hp<|jD<|A5 K52<|AM I<|AA<|A5 K51<|A4 fun _ K65=>wM I I<|wM I I<|wM I I<|wM I I<|AB (AE ON I (hs:=Iy (l:=w3) (a:=c) (b:=d) (p:=p) (by rw [hs3.len];exact hwl) hn (by omega) (by omega) (by omega))) I I I ?_
  rintro _ _ ⟨⟨⟨mid,alr,m⟩,hsm,hcut⟩,rfl,hA⟩
  simp only [ca] at hA
  subst hA
  dsimp only at hsm hcut ⊢
  have hml:m.length=n:=by rw [hsm.len,hs3.len];exact hwl
  have hm1:=hcut.lo
  have hm2:=hcut.hi
  have hom:=EA hor (hs3.trans hsm) hcd.1 hcd.2.2 (by omega)
  have hlm:=hlc.sw (hs3.trans hsm) (by omega)
  refine wM I I<|A2 (BE I) I<|A2 (BN I) I<|wA I I<|wA I I<|A3 K65<|A4 fun _ K66=>wM I I<|wA I I<|A3 K66<|A4 fun _ K67=>wM I I<|wM I I<|A2 (Ax I I) I<|wM I I ?_
  refine wM I I<|A2 (Ax I I) I<|wA I I<|wA I I<|A3 K67<|A4 fun _ K68=>wM I I<|A2 (F4 (j:=8) I I) I ?_
  refine wA I I<|A3 K68<|A4 fun _ K69=>wM I I<|wM I I<|A2 (An I I) I<|A3 K69<|AH I (fun hc7=>?_) (fun hc7=>?_)
  ·try simp only [dz] at hc7
   refine A4 fun _ K70=>wM I I<|wM I I<|A2 (Bl I I) I ?_
   refine wA I I<|A3 K70<|A4 fun _ K71=>wM I I<|wM I I<|wM I I<|wM I I<|AB (AE KX I (hs:=ih c mid m lm1 (by omega) (by omega) (by omega) hml (hlm.sub (by omega)) hl1)) I I I ?_
   rintro _ _ ⟨⟨m2,hsm2,hom2⟩,rfl,hA⟩
   simp only [ca] at hA
   subst hA
   refine A3 K71<|AD<|wM I I<|A2 (AN (j:=1) I I) I<|wA I I<|AW<|Av (K3 ⟨mid+1,d,lm1,decide ((d -c) / 8<=mid -c),alr,m2⟩ (⟨by (try dsimp only);omega,hl1,hsw.trans (((hs3.trans hsm).trans (hsm2.wide (Nat.le_refl _) (by omega))).wide hcd.1 hcd.2.2),hcut.left hom hsm2 hom2 hcd.1 hcd.2.2 (by omega),by(try dsimp only);rw [hsm2.len];exact hml⟩) (by (try dsimp only);omega))
  try simp only [dz] at hc7
  refine A4 fun _ K72=>wM I I<|wM I I<|A2 (Bl I I) I ?_
  refine wA I I<|A3 K72<|A4 fun _ K73=>wM I I<|wM I I<|A2 (AN (j:=1) I I) I<|wM I I<|wM I I<|AB (AE KX I (hs:=ih (mid+1) d m lm1 (by omega) (by omega) (by omega) hml hcut.lbR hl1)) I I I ?_
  rintro _ _ ⟨⟨m2,hsm2,hom2⟩,rfl,hA⟩
  simp only [ca] at hA
  subst hA
  refine A3 K73<|AD<|wM I I<|wA I I<|AW<|Av (K3 ⟨c,mid,lm1,decide ((d -c) / 8<=d -mid),alr,m2⟩ (⟨by (try dsimp only);omega,hl1,hsw.trans (((hs3.trans hsm).trans (hsm2.wide (by omega) (Nat.le_refl _))).wide hcd.1 hcd.2.2),hcut.right hom hsm2 hom2 hcd.1 hcd.2.2 (by omega),by(try dsimp only);rw [hsm2.len];exact hml⟩) (by (try dsimp only);omega))
 try simp only [dz] at hg23
 refine wK I<|A2 (A8 I I) I<|wM I I<|wK I<|wK I<|A2 (A8 I I) I<|A3 K22<|Cx (B0:= [Aa (some ga) cap 1 42 (eU .u32 (w:=32)) w2]) (σ:=(List Bv)) (fun w3=> []) (fun w3=> [Aa (some ga) cap 1 42 (eU .u32 (w:=32)) w3]) (fun w3=>SwR c d w w3) [0,1,2,3,8,9,10,11,12,13,14,15,16,17,18,19,20,21,22,23,24,25,26,28,29,30,31,32,34,35,36,37,38,40,41,42,43,44,45,46,47,48,49,50,51,52,53,55,56,57,58,59,60,61,62,63,64,65,66,67,68,73,74,75,76,77,78,79,80,81,82,83,84,85,86,87,88,89,90,91,92,93,94,95,96,97,98,99,100,101,102,103,104,105,106,107,108,109,110,111,112,113,114,115,116,117,118,119,120,122,123,124,125,126,127,128,129,130,131,133] Cw D8 ?_ ?_
 ·intro K74
  refine AM I<|AA<|Av (K74 (w2) (hs2))
 rintro w3 hs3
 simp only [List.cons_append,List.nil_append]
 have hw3l:w3.length=n:=by rw [hs3.len];exact hwl
 refine A5 K21<|A7 fun _ K75=>A7 fun _ K76=>BC CE [Aa (some ga) cap 1 42 (eU .u32 (w:=32)) w3] (fun i=>([2,2,2,2,2,2,2,2,2,2,2,2,1,2,2]:List Nat).getD i 0) ?_
 refine jM 0 I I I hp<|jP 1 I (Bz (j:=0) I I) I hp ?_
 refine jM 2 I I I hp<|Be 75 I (fun hg77=>?_) (fun hg77=>?_)
 ·try simp only [dz] at hg77
  refine jM 3 I I I hp<|jM 4 I I I hp<|jP 5 I (Ax (j:=1) I I) I hp<|jP 6 I (AT (c -1) I I B2 BI (hj:=by omega)) I hp ?_
  refine jT 7 I (AU (i:=c -1) (j:=0) I BX (hl:=BY (l:=w3) (by omega))) I hp AQ ?_
  refine jM 8 I I I hp<|jM 9 I I I hp<|jP 10 I (AT (p) I I B2 BI (hj:=by omega)) I hp ?_
  refine jT 11 I (AU (i:=p) (j:=0) I BX (hl:=BY (l:=w3) (by omega))) I hp AQ ?_
  refine jO 12<|B7 I (AE FC I (hs:=D3 (x:=w3.getD (c -1) 0#32) (y:=w3.getD (p) 0#32))) I I I I ?_
  rintro _ _ ⟨⟨⟩,rfl,hA⟩
  simp only [ca] at hA
  subst hA
  refine⟨(fun _=>AQ),?_⟩
  refine jP 13 I (Au I) I hp<|jP 14 I (AC I I) I hp<|jD<|A5 K76<|AH I (fun hc6=>?_) (fun hc6=>?_)
  ·try simp only [dz] at hc6
   have hle:vA w3 p<=vA w3 (c -1):=by unfold vA at *;omega
   have hc0:0<c:=by omega
   refine A4 fun _ K78=>wM I I<|wM I I<|wM I I<|wM I I<|AB (AE YE I (hs:=Mk (l:=w3) (a:=c) (b:=d) (p:=p) (by rw [hs3.len];exact hwl) hn (by omega) (by omega) (by omega))) I I I ?_
   rintro _ _ ⟨⟨⟨mid,m⟩,hsm,hmid,hme⟩,rfl,hA⟩
   simp only [ca] at hA
   subst hA
   dsimp only at hsm hmid hme ⊢
   refine wA I I<|A3 K78<|A4 fun _ K79=>wM I I<|wA I I<|A3 K79<|Aj<|Av (K3 ⟨mid,d,lm1,wb,wp,m⟩ (⟨by (try dsimp only);omega,hl1,hsw.trans ((hs3.trans hsm).wide hcd.1 hcd.2.2),Mm (v:=vA w3 p) (EA hor (hs3.trans hsm) hcd.1 hcd.2.2 (by omega)) (hlc.sw (hs3.trans hsm) (by omega)) hc0 (by rw [hsm.out (k:=c -1) (by rw [hs3.len];omega) (.inl (by omega))];exact hle) hme hcd.1 (by omega) hcd.2.2,by(try dsimp only);rw [hsm.len,hs3.len];exact hwl⟩) (by (try dsimp only);omega))
  try simp only [dz] at hc6
  refine AA<|A5 K75<|A4 fun _ K80=>wM I I<|wM I I<|wM I I<|wM I I<|AB (AE ON I (hs:=Iy (l:=w3) (a:=c) (b:=d) (p:=p) (by rw [hs3.len];exact hwl) hn (by omega) (by omega) (by omega))) I I I ?_
  rintro _ _ ⟨⟨⟨mid,alr,m⟩,hsm,hcut⟩,rfl,hA⟩
  simp only [ca] at hA
  subst hA
  dsimp only at hsm hcut ⊢
  have hml:m.length=n:=by rw [hsm.len,hs3.len];exact hwl
  have hm1:=hcut.lo
  have hm2:=hcut.hi
  have hom:=EA hor (hs3.trans hsm) hcd.1 hcd.2.2 (by omega)
  have hlm:=hlc.sw (hs3.trans hsm) (by omega)
  refine wM I I<|A2 (BE I) I<|A2 (BN I) I<|wA I I<|wA I I<|A3 K80<|A4 fun _ K81=>wM I I<|wA I I<|A3 K81<|A4 fun _ K82=>wM I I<|wM I I<|A2 (Ax I I) I<|wM I I ?_
  refine wM I I<|A2 (Ax I I) I<|wA I I<|wA I I<|A3 K82<|A4 fun _ K83=>wM I I<|A2 (F4 (j:=8) I I) I ?_
  refine wA I I<|A3 K83<|A4 fun _ K84=>wM I I<|wM I I<|A2 (An I I) I<|A3 K84<|AH I (fun hc7=>?_) (fun hc7=>?_)
  ·try simp only [dz] at hc7
   refine A4 fun _ K85=>wM I I<|wM I I<|A2 (Bl I I) I ?_
   refine wA I I<|A3 K85<|A4 fun _ K86=>wM I I<|wM I I<|wM I I<|wM I I<|AB (AE KX I (hs:=ih c mid m lm1 (by omega) (by omega) (by omega) hml (hlm.sub (by omega)) hl1)) I I I ?_
   rintro _ _ ⟨⟨m2,hsm2,hom2⟩,rfl,hA⟩
   simp only [ca] at hA
   subst hA
   refine A3 K86<|AD<|wM I I<|A2 (AN (j:=1) I I) I<|wA I I<|AW<|Av (K3 ⟨mid+1,d,lm1,decide ((d -c) / 8<=mid -c),alr,m2⟩ (⟨by (try dsimp only);omega,hl1,hsw.trans (((hs3.trans hsm).trans (hsm2.wide (Nat.le_refl _) (by omega))).wide hcd.1 hcd.2.2),hcut.left hom hsm2 hom2 hcd.1 hcd.2.2 (by omega),by(try dsimp only);rw [hsm2.len];exact hml⟩) (by (try dsimp only);omega))
  try simp only [dz] at hc7
  refine A4 fun _ K87=>wM I I<|wM I I<|A2 (Bl I I) I ?_
  refine wA I I<|A3 K87<|A4 fun _ K88=>wM I I<|wM I I<|A2 (AN (j:=1) I I) I<|wM I I<|wM I I<|AB (AE KX I (hs:=ih (mid+1) d m lm1 (by omega) (by omega) (by omega) hml hcut.lbR hl1)) I I I ?_
  rintro _ _ ⟨⟨m2,hsm2,hom2⟩,rfl,hA⟩
  simp only [ca] at hA
  subst hA
  refine A3 K88<|AD<|wM I I<|wA I I<|AW<|Av (K3 ⟨c,mid,lm1,decide ((d -c) / 8<=d -mid),alr,m2⟩ (⟨by (try dsimp only);omega,hl1,hsw.trans (((hs3.trans hsm).trans (hsm2.wide (by omega) (Nat.le_refl _))).wide hcd.1 hcd.2.2),hcut.right hom hsm2 hom2 hcd.1 hcd.2.2 (by omega),by(try dsimp only);rw [hsm2.len];exact hml⟩) (by (try dsimp only);omega))
 try simp only [dz] at hg77
 refine jK 3 I I hp<|jK 4 I I hp<|jK 5 I I hp<|jK 6 I I hp<|jK 7 I I hp<|jK 8 I I hp<|jK 9 I I hp<|jK 10 I I hp<|jK 11 I I hp<|jO 12<|CN I I I I (fun _=>AQ) ?_
 refine jK 13 I I hp<|jP 14 I (A8 I I) I hp<|jD<|A5 K76<|AM I<|AA<|A5 K75<|A4 fun _ K89=>wM I I<|wM I I<|wM I I<|wM I I<|AB (AE ON I (hs:=Iy (l:=w3) (a:=c) (b:=d) (p:=p) (by rw [hs3.len];exact hwl) hn (by omega) (by omega) (by omega))) I I I ?_
 rintro _ _ ⟨⟨⟨mid,alr,m⟩,hsm,hcut⟩,rfl,hA⟩
 simp only [ca] at hA
 subst hA
 dsimp only at hsm hcut ⊢
 have hml:m.length=n:=by rw [hsm.len,hs3.len];exact hwl
 have hm1:=hcut.lo
 have hm2:=hcut.hi
 have hom:=EA hor (hs3.trans hsm) hcd.1 hcd.2.2 (by omega)
 have hlm:=hlc.sw (hs3.trans hsm) (by omega)
 refine wM I I<|A2 (BE I) I<|A2 (BN I) I<|wA I I<|wA I I<|A3 K89<|A4 fun _ K90=>wM I I<|wA I I<|A3 K90<|A4 fun _ K91=>wM I I<|wM I I<|A2 (Ax I I) I<|wM I I ?_
 refine wM I I<|A2 (Ax I I) I<|wA I I<|wA I I<|A3 K91<|A4 fun _ K92=>wM I I<|A2 (F4 (j:=8) I I) I ?_
 refine wA I I<|A3 K92<|A4 fun _ K93=>wM I I<|wM I I<|A2 (An I I) I<|A3 K93<|AH I (fun hc7=>?_) (fun hc7=>?_)
 ·try simp only [dz] at hc7
  refine A4 fun _ K94=>wM I I<|wM I I<|A2 (Bl I I) I ?_
  refine wA I I<|A3 K94<|A4 fun _ K95=>wM I I<|wM I I<|wM I I<|wM I I<|AB (AE KX I (hs:=ih c mid m lm1 (by omega) (by omega) (by omega) hml (hlm.sub (by omega)) hl1)) I I I ?_
  rintro _ _ ⟨⟨m2,hsm2,hom2⟩,rfl,hA⟩
  simp only [ca] at hA
  subst hA
  refine A3 K95<|AD<|wM I I<|A2 (AN (j:=1) I I) I<|wA I I<|AW<|Av (K3 ⟨mid+1,d,lm1,decide ((d -c) / 8<=mid -c),alr,m2⟩ (⟨by (try dsimp only);omega,hl1,hsw.trans (((hs3.trans hsm).trans (hsm2.wide (Nat.le_refl _) (by omega))).wide hcd.1 hcd.2.2),hcut.left hom hsm2 hom2 hcd.1 hcd.2.2 (by omega),by(try dsimp only);rw [hsm2.len];exact hml⟩) (by (try dsimp only);omega))
 try simp only [dz] at hc7
 refine A4 fun _ K96=>wM I I<|wM I I<|A2 (Bl I I) I ?_
 refine wA I I<|A3 K96<|A4 fun _ K97=>wM I I<|wM I I<|A2 (AN (j:=1) I I) I<|wM I I<|wM I I<|AB (AE KX I (hs:=ih (mid+1) d m lm1 (by omega) (by omega) (by omega) hml hcut.lbR hl1)) I I I ?_
 rintro _ _ ⟨⟨m2,hsm2,hom2⟩,rfl,hA⟩
 simp only [ca] at hA
 subst hA
 refine A3 K97<|AD<|wM I I<|wA I I<|AW<|Av (K3 ⟨c,mid,lm1,decide ((d -c) / 8<=d -mid),alr,m2⟩ (⟨by (try dsimp only);omega,hl1,hsw.trans (((hs3.trans hsm).trans (hsm2.wide (by omega) (Nat.le_refl _))).wide hcd.1 hcd.2.2),hcut.right hom hsm2 hom2 hcd.1 hcd.2.2 (by omega),by(try dsimp only);rw [hsm2.len];exact hml⟩) (by (try dsimp only);omega))

theorem ZK{ga cap n:Nat}(hn:n<=1000): ∀(k a b:Nat) (l:List Bv) (lim:Int),b -a=k ->a<=b ->b<=n ->l.length=n ->LB l a b ->(0<=lim/\lim<=100) ->Ct Tryz.prog 85 [sl (some ga) n cap,.int .i64 ((a:Nat):Int),.int .i64 ((b:Nat):Int),.int .i64 lim] [Aa (some ga) cap 1 42 (eU .u32 (w:=32)) l] (fun _: {m:List Bv // SwR a b l m/\G1 m a b} =>.tuple #[]) (fun g=> [Aa (some ga) cap 1 42 (eU .u32 (w:=32)) g.1]):=by
 intro k
 induction k using Nat.strongRecOn with
 |ind k ih=>
  intro a b l lim hk hab hb hl hlb hlim
  exact ZL hl hn hab hb hlb hk hlim fun a b l lim h=>ih (b -a) h a b l lim rfl

theorem NR: ∀f x:Nat,Go.Lib.bitLenAux f x<=f
 |0,_=>Nat.le_refl _
 |f+1,x=>by
  unfold Go.Lib.bitLenAux
  split
  ·exact Nat.zero_le _
  ·have:=NR f (x / 2);omega
theorem ZM{ga cap:Nat}{l:List Bv}(hn:l.length<=1000):Ct Tryz.prog 85 [sl (some ga) l.length cap,.int .i64 0,.int .i64 ((l.length:Nat):Int),.int .i64 (((Go.Lib.bitLen (l.length:Int).toNat):Nat):Int)] [Aa (some ga) cap 1 42 (eU .u32 (w:=32)) l] (fun _:Unit=>.tuple #[]) (fun _=> [Aa (some ga) cap 1 42 (eU .u32 (w:=32)) (l.mergeSort fun x y=>decide (x.toNat<=y.toNat))]):=
 HA (ZK (ga:=ga) (cap:=cap) hn _ 0 l.length l (Go.Lib.bitLen (l.length:Int).toNat:Nat) rfl (Nat.zero_le _) (Nat.le_refl _) rfl (.inl rfl) ⟨by omega,by have:=NR 64 (l.length:Int).toNat;unfold Go.Lib.bitLen;omega⟩) (fun _=>()) (fun _=>rfl) (fun r F w q=>by
  have h:=Wm (r.2.1.perm (Nat.le_refl _)) (by rw [r.2.1.len];exact r.2.2)
  rw [<-h];exact q)

theorem UU{a:Option Nat}{cap:Nat}{l:List Bv}(hn:l.length<=1000)(h13:0<l.length):Ct Tryz.prog 65 [sl a l.length cap] [Aa a cap 1 42 (eU .u32 (w:=32)) l] (fun _:Unit=>.tuple #[]) (fun _=> [Aa a cap 1 42 (eU .u32 (w:=32)) (l.mergeSort fun x y=>decide (x.toNat<=y.toNat))]):=by
 refine AY (n:=11) Tryz.func65 I I I fun F w0 Q hret hnorm hp=>?_
 change WC _ _ _ _ _ _ _ (_::F)
 refine Cd (a:=a) Bf (by omega) (fun ga hga hcpa=>?_)
 subst hga
 refine A4 fun _ K1=>wM I I<|A2 (BA I I B2) I<|wA I I<|A3 K1<|AD<|wM I I<|wM I I<|wM I I<|A2 (Kc I N9 (r:=((l.length:Nat):Int)) (Kf (by omega))) I ?_
 refine AB (AE dt I (hs:=P2 (n:=l.length) (by omega))) I I I ?_
 rintro _ _ ⟨⟨⟩,rfl,hA⟩
 simp only [ca] at hA
 subst hA
 refine AB (AE KX I (hs:=ZM (ga:=ga) (cap:=cap) (l:=l) hn)) I I I ?_
 rintro _ _ ⟨⟨⟩,rfl,hA⟩
 simp only [ca] at hA
 subst hA
 refine AW ?_
 exact hnorm.go () (Ke rfl)

theorem UV:U3 1000:=fun a cap l h=>by
 by_cases h0:0<l.length
 ·exact UU (a:=a) (cap:=cap) h h0
 ·exact ZB a cap l (by omega)
end Go.Proofs.YtoakfknnaiapiaaGreat
/-
 A server,a state told and a reply,each as one thing owned. (Conditions:none;generic over the program.)
-/
set_option maxRecDepth 20000
namespace Go.SvM
open Go.SL Go.ShM Go.RowKit
theorem G6{P:Program}{f:FuncId}{args:List Value}{σ:Type}{φ:σ ->Prop}{B:σ ->List Ao}{pre:List Ao}{ρ:Type}{val:ρ ->Value}{post:ρ ->List Ao}(h: ∀s,φ s ->Ct P f args (B s++pre) val post):Ct P f args (M7 φ B::pre) val post:=
 ⟨fun F w hs=>by
  obtain⟨s,h1,h2⟩:=FD.1 (show sat w (M7 φ B::(pre++F)) from hs)
  exact(h s h1).out F w (by rw [List.append_assoc];exact h2)⟩
def Eu(tS tK tU:TypeId)(b:Nat)(room:Int)(s:Sv1):Ao:=M7 (fun q:Nat × List En=>q.2.map En.e=s.l) (fun q=> [cl b tS [.bool true,.int .i64 room,.int .i64 s.tick,.int .i64 ((Ap q.2:Nat):Int),.map (some q.1)],Bs q.1 By Cc (q.2.map En.kp),star (Cb tK tU) q.2])
theorem GH{tS tK tU:TypeId}{b:Nat}{room:Int}{s:Sv1}{R:List Ao}{w:World}(m:Nat)(L:List En)(hL:L.map En.e=s.l)(h:sat w ([cl b tS [.bool true,.int .i64 room,.int .i64 s.tick,.int .i64 ((Ap L:Nat):Int),.map (some m)],Bs m By Cc (L.map En.kp),star (Cb tK tU) L]++R)):sat w (Eu tS tK tU b room s::R):=FD.2 ⟨(m,L),hL,h⟩
theorem U0{α β:Type}{A:List Ao}{v:Value}{e:Nat}{f:α ->List Value}{g:β ->List Value}{h:α ->β}{l:List α}{ao:Option Addr}{cap:Nat}(hs:Sv A v e f l ao cap)(hg: ∀x,g (h x)=f x):Sv A v e g (l.map h) ao cap:=
 ⟨by rw [List.length_map];exact hs.val,fun hne=>hs.adr (fun e=>hne (by rw [e];rfl)),
  fun x hx=>by
   obtain⟨y,hy,rfl⟩:=List.mem_map.1 hx
   rw [hg];exact hs.len y hy,
  by rw [List.length_map];exact hs.le,
  fun w hw i x hx j u hu=>by
   rw [List.getElem?_map] at hx
   cases hy:l[i]? with
   |none=>rw [hy] at hx;cases hx
   |some y=>
    rw [hy] at hx;cases hx
    rw [hg] at hu
    exact hs.cell w hw i y hy j u hu⟩
structure StG (l:List Kp) where
 X:Ao
 v:Value
 kvs:List KV
 ao:Option Addr
 cap:Nat
 eq:kvs.map KV.kp=l
 sv:Sv [X] v 19 EC kvs ao cap
 ok: ∀k∈kvs,Lh X k
structure RpG (eI:Int ->List Value) (rp:Rp) where
 X:Ao
 nv:Value
 bv:Value
 na:Option Addr
 nc:Nat
 ba:Option Addr
 bc:Nat
 hn:Sv [X] nv 1 eI rp.ns na nc
 hb:Sv [X] bv 1 (eU .u8 (w:=8)) rp.bs ba bc
def RpG.v{eI:Int ->List Value}{rp:Rp}(g:RpG eI rp):Value:=.agg [.int .u8 rp.kind,g.nv,g.bv].toArray
theorem Lm{eI:Int ->List Value}(Jl:Enc eI 1){tI tU:TypeId}{rp:Rp}{na ba:Option Nat}{nc bc:Nat}{R:List Ao}{w:World}(h:sat w (Aa na nc 1 tI eI rp.ns::Aa ba bc 1 tU (eU .u8 (w:=8)) rp.bs::R)):
  ∃g:RpG eI rp,g.v= .agg [.int .u8 rp.kind,sl na rp.ns.length nc,sl ba rp.bs.length bc].toArray/\sat w (g.X::R):=by
 have f1:=B1 (a:=na) (cap:=nc) (e:=1) (T:=tI) (f:=eI) (l:=rp.ns) Has.here h
 have f2:=B1 (a:=ba) (cap:=bc) (e:=1) (T:=tU) (f:=(eU .u8 (w:=8))) (l:=rp.bs) (Has.there Has.here) h
 have s1:Sv [Aa na nc 1 tI eI rp.ns] (sl na rp.ns.length nc) 1 eI rp.ns (na.map fun g=>⟨g,0,none⟩) nc:=BM Jl f1.1 f1.2
 have s2:Sv [Aa ba bc 1 tU (eU .u8 (w:=8)) rp.bs] (sl ba rp.bs.length bc) 1 (eU .u8 (w:=8)) rp.bs (ba.map fun g=>⟨g,0,none⟩) bc:=BM (Em .u8 (w:=8)) f2.1 f2.2
 exact⟨⟨F7 [Aa na nc 1 tI eI rp.ns,Aa ba bc 1 tU (eU .u8 (w:=8)) rp.bs],_,_,_,_,_,_,s1.pk Has.here,s2.pk (Has.there Has.here)⟩,rfl,Bb.2 h⟩
theorem cy{k k':KV}(h:k.kp=k'.kp):k.ix=k'.ix/\k.num=k'.num/\k.b.l=k'.b.l/\k.ls.l=k'.ls.l:=⟨congrArg Kp.ix h,congrArg Kp.num h,congrArg Kp.b h,congrArg Kp.ls h⟩
theorem Wf.lsl{room:Int}{s:Sv1}(h:Wf room s){kvs:List KV}(e:kvs.map KV.kp=s.l): ∀k∈kvs,k.ls.l.length<=900000000000:=fun k hk=>by
 have h1:=h.ls k.kp (by rw [<-e];exact List.mem_map.2 ⟨k,hk,rfl⟩)
 have h2:k.kp.ls.length=k.ls.l.length:=rfl
 omega
theorem Wf.bl{room:Int}{s:Sv1}(h:Wf room s){kvs:List KV}(e:kvs.map KV.kp=s.l): ∀k∈kvs,k.b.l.length<=900000000000:=fun k hk=>by
 have h1:=h.len k.kp (by rw [<-e];exact List.mem_map.2 ⟨k,hk,rfl⟩)
 have h2:k.kp.b.length=k.b.l.length:=rfl
 omega
theorem Wf.call_eq{room:Int}{s s2:Sv1}{t:Int}{r:Rq}{rp:Rp}{er:Int}(h:Wf room s)(hc:Eg room s t r=(rp,er,s2)):Wf room s2:=by
 have:=Wf.call (t:=t) (r:=r) h
 rw [hc] at this;exact this
theorem IR{room:Int}{s s2:Sv1}{t:Int}{r:Rq}{rp:Rp}{er:Int}(hc:Eg room s t r=(rp,er,s2)):s2.l.length<=s.l.length+1:=by
 have:=XA room s t r
 rw [hc] at this;exact this
theorem UE(t:Int)(l:List Kp):(BW t l).length<=l.length:=List.length_filterMap_le _ _
theorem Gh(x:Ix)(p:Kp ->Bool)(l:List Kp):(B9 x p l).length<=l.length:=by
 unfold B9
 rw [List.length_map];exact List.length_filter_le _ _
theorem Nx{room:Int}{s s2:Sv1}{t:Int}{r:Rq}{rp:Rp}{er:Int}(h:Wf room s)(hc:Eg room s t r=(rp,er,s2)):rp.ns.length<=s.l.length/\rp.bs.length<=33554432:=by
 have e1:rp=(Eg room s t r).1:=by rw [hc]
 subst e1
 clear hc
 have z0: ∀k:Int,(Or k).ns.length<=s.l.length/\(Or k).bs.length<=33554432:=fun k=>⟨Nat.zero_le _,Nat.zero_le _⟩
 unfold Eg
 split
 ·exact z0 0
 ·rename_i ht
  have hw:=h.tick (t:=t) (by omega) (by omega)
  have hl:=UE t s.l
  split
  ·unfold PQ
   split
   ·exact⟨Nat.le_trans (Gh _ _ _) hl,Nat.zero_le _⟩
   split
   ·unfold E2
    repeat' split
    all_goals exact z0 _
   split
   ·unfold FU
    split
    ·exact z0 6
    ·rename_i e hf
     split
     ·exact z0 6
     ·refine⟨Nat.zero_le _,?_⟩
      have:=hw.len e (ND hf).1
      show ((e.b.take _).drop _).length<=_
      rw [List.length_drop,List.length_take]
      omega
   split
   ·exact⟨Nat.le_trans (Gh _ _ _) hl,Nat.zero_le _⟩
   ·exact⟨Nat.le_trans (Gh _ _ _) hl,Nat.zero_le _⟩
  ·exact z0 7
end Go.SvM
namespace Go.Proofs.YtoakfknnaiapiaaGreat
open Go.RowKit Go.SL Go.ShM Go.SvM
set_option maxHeartbeats 1000000
set_option maxRecDepth 20000
set_option linter.all false

theorem ZT{room:Int}(h:0<=room/\room<=1073741824):Ct Tryz.prog 12 [.int .i64 room] [] (fun g:Nat=>.tuple #[.pointer (some ⟨g,0,none⟩),.int .i64 0]) (fun g=> [Eu 90 102 5 g room ⟨0,[]⟩]):=
 (SU h).reg fun g F w q=>⟨g.1,rfl,GH g.2 [] rfl q⟩
theorem Vv{b:Nat}{room t:Int}{s:Sv1}(hw:Wf room s)(h1:s.tick<=t)(h2:t<=1099511627776):Ct Tryz.prog 21 [.pointer (some ⟨b,0,none⟩),.int .i64 t] [Eu 90 102 5 b room s] (fun _:Unit=>.int .i64 0) (fun _=> [Eu 90 102 5 b room ⟨t,BW t s.l⟩]):=
 G6 fun q hq=>(Oc (b:=b) (m:=q.1) (room:=room) (tick:=s.tick) (t1:=t) (L:=q.2) h1 h2 (by
  have q1:((C0 s.l:Nat):Int)<=room:=hw.used
  have q2:=hw.rm
  rw [Ei,hq];omega)).reg fun g F w h=>⟨(),rfl,GH q.1 (q.2.filterMap (Dd t)) (by rw [Ju,hq]) h⟩
theorem Vu{b:Nat}{room t:Int}{s:Sv1}(h:t<s.tick\/1099511627776<t):Ct Tryz.prog 21 [.pointer (some ⟨b,0,none⟩),.int .i64 t] [Eu 90 102 5 b room s] (fun _:Unit=>.int .i64 191) (fun _=> [Eu 90 102 5 b room s]):=
 G6 fun q hq=>(TB (b:=b) (m:=q.1) (room:=room) (tick:=s.tick) (t1:=t) (L:=q.2) h).reg fun g F w h=>⟨(),rfl,GH q.1 q.2 hq h⟩
theorem PT{b:Nat}{room t:Int}{s s2:Sv1}{r:Rq}{Y:Ao}{rp:Rp}{er:Int}(hw:Wf room s)(hB:Sv [Y] r.b.v 1 (eU .u8 (w:=8)) r.b.l r.b.ao r.b.cap)(hn:s.l.length<=100000000)(hc:Eg room s t r=(rp,er,s2)):
  Ct Tryz.prog 51 [.pointer (some ⟨b,0,none⟩),.int .i64 t,.agg (CP r).toArray] [Eu 90 102 5 b room s,Y] (fun g:RpG eI rp=>.tuple #[g.v,.int .i64 er]) (fun g=> [Eu 90 102 5 b room s2,Y,g.X]):=
 G6 fun q hq=>(bq (b:=b) (m:=q.1) (room:=room) (tick:=s.tick) (t:=t) (L:=q.2) (r:=r) (Y:=Y) (rp:=rp) (er:=er) (s2:=s2) (by rw [hq];exact hw) hB (by rw [<-hq,List.length_map] at hn;exact hn) (by rw [hq];exact hc)).reg fun g F w h=>by
  obtain⟨⟨L,⟨na,nc⟩,⟨ba,bc⟩⟩,hL⟩:=g
  simp only [List.cons_append,List.nil_append] at h
  (try dsimp only at h)
  have h2:=AS (show Gv _ [Aa na nc 1 3 eI rp.ns,Aa ba bc 1 5 (eU .u8 (w:=8)) rp.bs] _ from Gu) h
  simp only [List.cons_append,List.nil_append] at h2
  obtain⟨g,e1,h3⟩:=Lm Jl h2
  refine⟨g,by rw [e1],?_⟩
  have h4:=AS (show Gv _ [cl b 90 [.bool true,.int .i64 room,.int .i64 s2.tick,.int .i64 (((Ap L):Nat):Int),.map (some q.1)],Bs q.1 By Cc (L.map En.kp),star (Cb 102 5) L] _ from Gu) h3
  have h5:=GH (s:=s2) q.1 L hL h4
  exact AS (show Gv _ [Eu 90 102 5 b room s2,Y,g.X] F from Gu) h5
theorem X7{X:Ao}{v:Value}{kvs:List KV}{ao:Option Addr}{cap:Nat}{room tick:Int}(hS:Sv [X] v 19 EC kvs ao cap)(hOK: ∀k∈kvs,Lh X k)(hn:kvs.length<=100000000)(hlb: ∀k∈kvs,k.ls.l.length<=900000000000)(hwf:Wf room ⟨tick,kvs.map KV.kp⟩):
  Ct Tryz.prog 15 [.agg [.int .i64 room,.int .i64 tick,v].toArray] [X] (fun g:Nat=>.tuple #[.pointer (some ⟨g,0,none⟩),.int .i64 0]) (fun g=> [X,Eu 90 102 5 g room ⟨tick,kvs.map KV.kp⟩]):=
 (Zb hS hOK hn hlb hwf.rm hwf).reg fun g F w h=>by
  obtain⟨⟨b,m,L⟩,hL⟩:=g
  simp only [List.cons_append,List.nil_append] at h
  (try dsimp only at h)
  refine⟨b,rfl,?_⟩
  have h4:=AS (show Gv _ [cl b 90 [.bool true,.int .i64 room,.int .i64 tick,.int .i64 (((Ap L):Nat):Int),.map (some m)],Bs m By Cc (L.map En.kp),star (Cb 102 5) L] _ from Gu) h
  have h5:=GH (s:=⟨tick,kvs.map KV.kp⟩) m L hL h4
  exact AS (show Gv _ [X,Eu 90 102 5 b room ⟨tick,kvs.map KV.kp⟩] F from Gu) h5
theorem X6{X:Ao}{v:Value}{kvs:List KV}{ao:Option Addr}{cap:Nat}{room tick:Int}(hS:Sv [X] v 19 EC kvs ao cap)(hOK: ∀k∈kvs,Lh X k)(hn:kvs.length<=100000000)(hlb: ∀k∈kvs,k.ls.l.length<=900000000000)(hwf: ¬Wf room ⟨tick,kvs.map KV.kp⟩):
  Ct Tryz.prog 15 [.agg [.int .i64 room,.int .i64 tick,v].toArray] [X] (fun _:Unit=>.tuple #[.pointer none,.int .i64 192]) (fun _=> [X]):=by
 by_cases h:0<=room/\room<=1073741824
 ·exact Zc hS hOK hn hlb h hwf
 ·exact Uw hS (by omega)
theorem Vl{b:Nat}{room:Int}{s:Sv1} :Ct Tryz.prog 30 [.pointer (some ⟨b,0,none⟩)] [Eu 90 102 5 b room s] (fun _:Unit=>.int .i64 (((C0 s.l):Nat):Int)) (fun _=> [Eu 90 102 5 b room s]):=
 G6 fun q hq=>((Z1 (b:=b) (m:=q.1) (room:=room) (tick:=s.tick) (u:=Ap q.2)).frame [Bs q.1 By Cc (q.2.map En.kp),star (Cb 102 5) q.2]).reg fun g F w h=>⟨(),by rw [Ei,hq],GH q.1 q.2 hq h⟩
end Go.Proofs.YtoakfknnaiapiaaGreat
namespace Go.Proofs.YtoakfknnaiapiaaGreat
open Go.RowKit Go.SL Go.ShM Go.SvM
set_option maxHeartbeats 1000000
set_option maxRecDepth 20000
set_option linter.all false
theorem aY:DF Tryz.prog 32=true:=by kernel_rfl
theorem cf35:DF Tryz.prog 35=true:=by kernel_rfl
theorem cf58:DF Tryz.prog 58=true:=by kernel_rfl
theorem cf76:DF Tryz.prog 76=true:=by kernel_rfl
theorem Ti:fo Tryz.prog 113 0=some (0,111):=by kernel_rfl
theorem H7:fo Tryz.prog 113 1=some (1,79):=by kernel_rfl
theorem Ft:fo Tryz.prog 113 2=some (2,45):=by kernel_rfl
theorem Uc{X:Ao}{v v':Value}{l:List Ls}{ao ao':Option Addr}{cap cap':Nat}(hS:Sv [X] v 2 C9 l ao cap)(hS':Sv [X] v' 2 C9 l ao' cap')(hl:l.length<=900000000000):Ct Tryz.prog 58 [v,v'] [X] (fun _:Unit=>.bool true) (fun _=> [X]):=by
 have h:=WU hS hS' hl
 rw [show (Value.bool true)= .bool (decide (l=l)) from by simp]
 exact h

theorem Uf{X:Ao}{ix:Ix}{n:Int}{b b':Pt}{l l':VL}(hb:Sv [X] b.v 1 (eU .u8 (w:=8)) b.l b.ao b.cap)(hb':Sv [X] b'.v 1 (eU .u8 (w:=8)) b.l b'.ao b'.cap)(hl:Sv [X] l.v 2 C9 l.l l.ao l.cap)(hl':Sv [X] l'.v 2 C9 l.l l'.ao l'.cap)(h1:b.l.length<=900000000000)(h2:l.l.length<=900000000000):Ct Tryz.prog 35 [.agg (FM ix n b.v l.v).toArray,.agg (FM ix n b'.v l'.v).toArray] [X] (fun _:Unit=>.bool true) (fun _=> [X]):=by
 refine AY (n:=31) Tryz.func35 I I I fun F w0 Q hret hnorm hp=>?_
 change WC _ _ _ _ _ _ _ (_::F)
 refine A4 fun _ K1=>AB (Ay (xs:=FM ix n b.v l.v) I I) I I I ?_
 rintro _ _ ⟨b2,rfl,rfl⟩
 refine AB (Ay (xs:=FM ix n b'.v l'.v) I I) I I I ?_
 rintro _ _ ⟨b3,rfl,rfl⟩
 refine wA I I<|A3 K1<|A4 fun _ K2=>A2 (A1 I FO) I<|A2 (AI (vs:=ix.l.flatMap (eU .u8)) I Cv (hl:=by rw [Da];omega) (hi:=P5 _ _ _ _)) I ?_
 refine A2 (A1 I FO) I<|A2 (AI (vs:=ix.l.flatMap (eU .u8)) I Cv (hl:=by rw [Da];omega) (hi:=P5 _ _ _ _)) I ?_
 refine A2 (AL (v:=.bool true) (Pp I I LY ix.h ix.h) (by simp)) I<|wM I I<|A2 (A1 I E4) I<|A2 (A6 I BF (v:=.int .i64 n) (hi:=Ly _ _ _ _)) I ?_
 refine A2 (A1 I E4) I<|A2 (A6 I BF (v:=.int .i64 n) (hi:=Ly _ _ _ _)) I ?_
 refine A2 (AL (v:=.bool true) (CW I I) (by simp)) I<|A2 (AC I I) I<|wM I I<|A2 (A1 I C4) I<|A2 (A6 I Bg (v:=b.v) (hi:=O7 _ _ _ _)) I ?_
 refine A2 (A1 I C4) I<|A2 (A6 I Bg (v:=b'.v) (hi:=O7 _ _ _ _)) I ?_
 refine AB (AE aY I (hs:=Nv (X:=X) (l:=b.l) hb hb' h1)) I I I ?_
 rintro _ _ ⟨⟨⟩,rfl,hA⟩
 simp only [ca] at hA
 subst hA
 refine A2 (AC I I) I<|wM I I<|A2 (A1 I Ca) I<|A2 (A6 I EP (v:=l.v) (hi:=Je _ _ _ _)) I ?_
 refine A2 (A1 I Ca) I<|A2 (A6 I EP (v:=l'.v) (hi:=Je _ _ _ _)) I ?_
 refine AB (AE cf58 I (hs:=Uc (X:=X) (l:=l.l) hl hl' h2)) I I I ?_
 rintro _ _ ⟨⟨⟩,rfl,hA⟩
 simp only [ca] at hA
 subst hA
 refine A2 (AC I I) I<|wA I I<|A3 K2<|AK ?_
 exact hret.go () (BR rfl rfl)

theorem Ue{X:Ao}{k k':KV}(h:Lh X k)(h':Lh X k')(e:k.kp=k'.kp)(h1:k.b.l.length<=900000000000)(h2:k.ls.l.length<=900000000000):Ct Tryz.prog 35 [.agg (EC k).toArray,.agg (EC k').toArray] [X] (fun _:Unit=>.bool true) (fun _=> [X]):=by
 obtain⟨e1,e2,e3,e4⟩:=cy e
 obtain⟨ix,n,b,l⟩:=k
 obtain⟨ix',n',b',l'⟩:=k'
 simp only at e1 e2 e3 e4
 subst e1;subst e2
 have q1:=h'.1
 have q2:=h'.2
 simp only at q1 q2
 rw [<-e3] at q1
 rw [<-e4] at q2
 exact Uf h.1 q1 h.2 q2 h1 h2

theorem Is{X:Ao}{v v':Value}{kvs kvs':List KV}{ao ao':Option Addr}{cap cap':Nat}{room tick:Int}(hS:Sv [X] v 19 EC kvs ao cap)(hS':Sv [X] v' 19 EC kvs' ao' cap')(hO: ∀k∈kvs,Lh X k)(hO': ∀k∈kvs',Lh X k)(he:kvs.map KV.kp=kvs'.map KV.kp)(hn:kvs.length<=100000000)(hb: ∀k∈kvs,k.b.l.length<=900000000000)(hl: ∀k∈kvs,k.ls.l.length<=900000000000):Ct Tryz.prog 9 [(.agg [.int .i64 room,.int .i64 tick,v].toArray),(.agg [.int .i64 room,.int .i64 tick,v'].toArray)] [X] (fun _:Unit=>.bool true) (fun _=> [X]):=by
 refine AY (n:=46) Tryz.func9 I I I fun F w0 Q hret hnorm hp=>?_
 change WC _ _ _ _ _ _ _ (_::F)
 have hkl:kvs'.length=kvs.length:=by have:=congrArg List.length he;rw [List.length_map,List.length_map] at this;exact this.symm
 refine A4 fun _ K1=>AB (Ay (xs:= [.int .i64 room,.int .i64 tick,v]) I I) I I I ?_
 rintro _ _ ⟨b2,rfl,rfl⟩
 refine AB (Ay (xs:= [.int .i64 room,.int .i64 tick,v']) I I) I I I ?_
 rintro _ _ ⟨b3,rfl,rfl⟩
 refine wA I I<|A3 K1<|A7 fun _ K2=>A4 fun _ K3=>A2 (A1 I Dx) I<|A2 (A6 I BF (v:=.int .i64 room)) I<|A2 (A1 I Dx) I<|A2 (A6 I BF (v:=.int .i64 room)) I<|A2 (AL (v:=.bool false) (Dy I I) (by simp)) I<|wM I I<|A2 (A1 I Di) I<|A2 (A6 I BF (v:=.int .i64 tick)) I<|A2 (A1 I Di) I<|A2 (A6 I BF (v:=.int .i64 tick)) I<|A2 (AL (v:=.bool false) (Dy I I) (by simp)) I ?_
 refine A2 (A8 I I) I<|wM I I<|A2 (A1 I BB) I<|A2 (A6 I CL (v:=v)) I<|A2 (Al I I BV (hA:=hS)) I ?_
 refine A2 (A1 I BB) I<|A2 (A6 I CL (v:=v')) I<|A2 (Al I I BV (hA:=hS')) I ?_
 refine A2 (AL (v:=.bool false) (Bj I I) (by simp;omega)) I ?_
 refine A2 (A8 I I) I<|A3 K3<|AM I<|AA<|A5 K2<|A7 fun _ K4=>A4 fun _ K5=>wA I I<|A3 K5<|AG<|Ak (σ:=Nat) (fun i=> [(5,.int .i64 ((i:Nat):Int))]) (fun i=> []) (fun i=>i<=kvs.length) (fun i=>kvs.length -i) (0) [2,3] Cw D8 ?_ ?_ Sub.refl ?_
 ·exact Nat.zero_le _
 ·(try dsimp only);exact(Wk.cons Ch Wk.nil)
 rintro i hi K6 K6
 simp only [List.cons_append,List.nil_append]
 refine A7 fun _ K7=>A4 fun _ K8=>wM I I<|A2 (A1 I BB) I<|A2 (A6 I CL (v:=v)) I<|A2 (Al I I BV (hA:=hS)) I ?_
 refine A2 (An I I) I<|A3 K8<|AH I (fun hc1=>?_) (fun hc1=>?_)
 ·try simp only [dz] at hc1
  obtain⟨k,hk⟩: ∃k,kvs[i]? =some k:=⟨_,List.getElem?_eq_getElem (by omega)⟩
  obtain⟨k',hk'⟩: ∃k,kvs'[i]? =some k:=⟨_,List.getElem?_eq_getElem (by omega)⟩
  have hee:k.kp=k'.kp:=by have q:=congrArg (fun l=>l[i]?) he;simp only [List.getElem?_map,hk,hk',Option.map_some,Option.some.injEq] at q;exact q
  have hkm:=List.mem_of_getElem? hk
  have hkm':=List.mem_of_getElem? hk'
  refine AA<|A5 K7<|A7 fun _ K9=>AG<|A7 fun _ K10=>BC CE [cl b2 24 [.int .i64 room,.int .i64 tick,v],cl b3 24 [.int .i64 room,.int .i64 tick,v'],X] (fun i=>([2,2,2,2,2,2,2,2,2,2,1,2]:List Nat).getD i 0) ?_
  refine jP 0 I (A1 I BB) I hp<|jT 1 I (A6 I CL (v:=v)) I hp AQ<|jM 2 I I I hp<|jP 3 I (AO i I I BV C6 (hA:=hS) (hi:=by omega)) I hp ?_
  refine jT 4 I (BG (f:=EC) (i:=i) (y:=k) I EM (hA:=hS) (hl:=hk)) I hp AQ ?_
  refine jP 5 I (A1 I BB) I hp<|jT 6 I (A6 I CL (v:=v')) I hp AQ<|jM 7 I I I hp<|jP 8 I (AO i I I BV C6 (hA:=hS') (hi:=by omega)) I hp ?_
  refine jT 9 I (BG (f:=EC) (i:=i) (y:=k') I EM (hA:=hS') (hl:=hk')) I hp AQ ?_
  refine jO 10<|B7 I (AE cf35 I (hs:=Ue (X:=X) (k:=k) (k':=k') (hO k hkm) (hO' k' hkm') hee (hb k hkm) (hl k hkm))) I I I I ?_
  rintro _ _ ⟨⟨⟩,rfl,hA⟩
  simp only [ca] at hA
  subst hA
  refine⟨(fun _=>AQ),?_⟩
  refine jP 11 I (Au I) I hp<|jD<|A5 K10<|AM I<|AA<|A5 K9<|AD<|wM I I<|A2 (AN (j:=1) I I) I<|wA I I<|AW<|Av (K6 (i+1) (by omega) (by omega))
 try simp only [dz] at hc1
 refine Aj<|A5 K4<|A4 fun _ K11=>wA I I<|A3 K11<|AK ?_
 exact hret.go () (BR rfl rfl)

theorem Ub{rp:Rp}{g g':RpG eI rp}(h1:rp.ns.length<=900000000000)(h2:rp.bs.length<=900000000000):Ct Tryz.prog 53 [g.v,g'.v] [g.X,g'.X] (fun _:Unit=>.bool true) (fun _=> [g.X,g'.X]):=by
 refine AY (n:=24) Tryz.func53 I I I fun F w0 Q hret hnorm hp=>?_
 change WC _ _ _ _ _ _ _ (_::_::F)
 refine A4 fun _ K1=>AB (Ay (xs:= [.int .u8 rp.kind,g.nv,g.bv]) I I) I I I ?_
 rintro _ _ ⟨b2,rfl,rfl⟩
 refine AB (Ay (xs:= [.int .u8 rp.kind,g'.nv,g'.bv]) I I) I I I ?_
 rintro _ _ ⟨b3,rfl,rfl⟩
 refine wA I I<|A3 K1<|A4 fun _ K2=>A2 (A1 I Ti) I<|A2 (A6 I bR (v:=.int .u8 rp.kind)) I<|A2 (A1 I Ti) I<|A2 (A6 I bR (v:=.int .u8 rp.kind)) I<|A2 (AL (v:=.bool true) (CW I I) (by simp)) I<|wM I I<|A2 (A1 I H7) I<|A2 (A6 I Gw (v:=g.nv)) I<|A2 (A1 I H7) I<|A2 (A6 I Gw (v:=g'.nv)) I<|AB (AE cf76 I (hs:=Ct.un0 (Xs:= [g.X,g'.X]) (Ug (X:=F7 [g.X,g'.X]) (l:=rp.ns) (g.hn.pk Has.here) (g'.hn.pk (Has.there Has.here)) h1))) I I I ?_
 rintro _ _ ⟨⟨⟩,rfl,hA⟩
 simp only [ca] at hA
 subst hA
 refine A2 (AC I I) I<|wM I I<|A2 (A1 I Ft) I<|A2 (A6 I Bg (v:=g.bv)) I<|A2 (A1 I Ft) I<|A2 (A6 I Bg (v:=g'.bv)) I<|AB (AE aY I (hs:=Ct.un0 (Xs:= [g.X,g'.X]) (Nv (X:=F7 [g.X,g'.X]) (l:=rp.bs) (g.hb.pk Has.here) (g'.hb.pk (Has.there Has.here)) h2))) I I I ?_
 rintro _ _ ⟨⟨⟩,rfl,hA⟩
 simp only [ca] at hA
 subst hA
 refine A2 (AC I I) I<|wA I I<|A3 K2<|AK ?_
 exact hret.go () (BR rfl rfl)
end Go.Proofs.YtoakfknnaiapiaaGreat
namespace Go.Proofs.YtoakfknnaiapiaaGreat
open Go.RowKit Go.SL Go.ShM Go.SvM
set_option maxHeartbeats 1000000
set_option maxRecDepth 20000
set_option linter.all false

theorem GT{x:Int}{n:Nat}(hn:1<=n:=by omega)(hn2:n<=1000000000:=by omega):Ct Tryz.prog 19 [.int .i64 x,.int .i64 ((n:Nat):Int)] [] (fun _:Unit=>.int .i64 (((Bo x n):Nat):Int)) (fun _=> []):=by
 refine AY (n:=16) Tryz.func19 I I I fun F w0 Q hret hnorm hp=>?_
 change WC _ _ _ _ _ _ _ (F)
 have htm:=Vp x hn
 refine A4 fun _ K1=>wA I I<|A3 K1<|A7 fun _ K2=>A4 fun _ K3=>wM I I<|A2 (HI (An (j:=1) I I)) I ?_
 refine A3 K3<|AM I<|AA<|A5 K2<|A4 fun _ K4=>wM I I<|wM I I<|A2 (bC I I (by omega) I) I ?_
 refine wA I I<|A3 K4<|A7 fun _ K5=>A4 fun _ K6=>wM I I<|A2 (Bt I I) I<|A3 K6<|AH I (fun hc1=>?_) (fun hc1=>?_)
 ·try simp only [dz] at hc1
  refine AD<|wM I I<|wM I I<|A2 (MH I I (JV I (by omega) (by omega))) I ?_
  refine wA I I<|AW<|A5 K5<|A4 fun _ K7=>wM I I<|wA I I<|A3 K7<|AK ?_
  first|exact hret.goE () (BR rfl rfl) (by rw [QM hn hc1])|exact hret.goE () (BR rfl rfl) (by rw [QL hn (by omega)])
 try simp only [dz] at hc1
 refine AA<|A5 K5<|A4 fun _ K8=>wM I I<|wA I I<|A3 K8<|AK ?_
 first|exact hret.goE () (BR rfl rfl) (by rw [QM hn hc1])|exact hret.goE () (BR rfl rfl) (by rw [QL hn (by omega)])
end Go.Proofs.YtoakfknnaiapiaaGreat
