/-
  Contracts of functions that the claim reaches, or the logic and the plain laws that they rest on, or the row over them. (Conditions: none beyond the statement.)
-/
import Derived.Test.YtoakfknnaiapiaaGreatKAG
set_option linter.all false
namespace Go.Proofs.YtoakfknnaiapiaaGreat
open Go.RowKit Go.SL Go.ShM Go.SvM
set_option maxHeartbeats 1000000
set_option maxRecDepth 20000
set_option linter.all false
theorem cB:DF Tryz.prog 121=true:=by kernel_rfl
theorem TD{ga cap n lo hi f:Nat}{l:List Bv}(hl:l.length=n)(hn:n<=1000)(hlo:lo<=1000)(hf:f+hi<=n)(hh:XX l f (lo+1) hi):Ct Tryz.prog 121 [sl (some ga) n cap,.int .i64 ((lo:Nat):Int),.int .i64 ((hi:Nat):Int),.int .i64 ((f:Nat):Int)] [Aa (some ga) cap 1 42 (eU .u32 (w:=32)) l] (fun g: {m:List Bv // SwR f (f+hi) l m/\XX m f lo hi} =>.tuple #[]) (fun g=> [Aa (some ga) cap 1 42 (eU .u32 (w:=32)) g.1]):=by
 refine AY (n:=76) Tryz.func121 I I I fun F w0 Q hret hnorm hp=>?_
 change WC _ _ _ _ _ _ _ (_::F)
 refine A4 fun _ K1=>wM rfl rfl<|wA rfl rfl<|A3 K1<|AG<|Ak (σ:=Nat × (List Bv)) (fun ⟨r,w⟩=> [(8,.int .i64 ((r:Nat):Int))]) (fun ⟨r,w⟩=> [Aa (some ga) cap 1 42 (eU .u32 (w:=32)) w]) (fun ⟨r,w⟩=>(r<hi\/r=lo)/\hpX w f lo hi r/\SwR f (f+hi) l w/\w.length=n) (fun ⟨r,w⟩=>hi -r) ⟨lo,l⟩ [0,2,3] Cw D8 ?_ ?_ Sub.refl ?_
 ·exact⟨.inr rfl,dD hh,.refl,hl⟩
 ·(try dsimp only);exact(Wk.cons Ch Wk.nil)
 rintro⟨r,w⟩ ⟨hr,hx,hsw,hwl⟩ K2 K2
 simp only [List.cons_append,List.nil_append]
 refine AG<|A4 fun _ K3=>wM I I<|A2 (ET (i:=2) I I) I ?_
 refine A2 (AN (j:=1) I I) I<|wA I I<|A3 K3<|A7 fun _ K4=>A4 fun _ K5=>wM I I<|wM I I<|A2 (Bl I I) I ?_
 refine A3 K5<|AH I (fun hc0=>?_) (fun hc0=>?_)
 ·try simp only [dz] at hc0
  refine Aj ?_
  exact hnorm.go ⟨w,hsw,PC hx fun c h1 h2=>by omega⟩ (Ke rfl)
 try simp only [dz] at hc0
 refine AA<|A5 K4<|A7 fun _ K6=>A7 fun _ K7=>BC CE [Aa (some ga) cap 1 42 (eU .u32 (w:=32)) w] (fun i=>([2,2,2,2,2,2,2,2,2,2,2,2,2,2,2,2,2,2,1,2]:List Nat).getD i 0) ?_
 refine jM 0 I I I hp<|jP 1 I (AN (j:=1) I I) I hp<|jM 2 I I I hp<|jP 3 I (An I I) I hp<|jM 4 I I I hp<|Be 21 I (fun hg8=>?_) (fun hg8=>?_)
 ·try simp only [dz] at hg8
  refine jM 5 I I I hp<|jM 6 I I I hp<|jM 7 I I I hp<|jP 8 I (AN I I) I hp<|jP 9 I (AT (f+(2*r+1)) I I B2 BI (hj:=by omega)) I hp ?_
  refine jT 10 I (AU (i:=f+(2*r+1)) (j:=0) I BX (hl:=BY (l:=w) (by omega))) I hp AQ ?_
  refine jM 11 I I I hp<|jM 12 I I I hp<|jM 13 I I I hp<|jP 14 I (AN I I) I hp<|jP 15 I (AN (j:=1) I I) I hp<|jP 16 I (AT (f+(2*r+1)+1) I I B2 BI (hj:=by omega)) I hp ?_
  refine jT 17 I (AU (i:=f+(2*r+1)+1) (j:=0) I BX (hl:=BY (l:=w) (by omega))) I hp AQ ?_
  refine jO 18<|B7 I (AE FC I (hs:=D3 (x:=w.getD (f+(2*r+1)) 0#32) (y:=w.getD (f+(2*r+1)+1) 0#32))) I I I I ?_
  rintro _ _ ⟨⟨⟩,rfl,hA⟩
  simp only [ca] at hA
  subst hA
  refine⟨(fun _=>AQ),?_⟩
  refine jP 19 I (AC I I) I hp<|jD<|A5 K7<|Cx (B0:= []) (σ:=Nat) (fun c=> [(9,.int .i64 ((c:Nat):Int))]) (fun c=> []) (fun c=>((c=2*r+1\/c=2*r+2)/\c<hi)/\(∀e,(e=2*r+1\/e=2*r+2) ->e<hi ->vA w (f+e)<=vA w (f+c))) [0,2,3,8,11,12,13,14,15,16,17,18,19,20,21,22,23,24,25,26,27,28,29,30,31,32,33,34,35,36,39,40,41,42,43,44,45,46,47,48,49,50,51,52,53,54,55,56,57,58,59,60,61,62,63,64,65,66,67,68,69,70,71,72,73,74,75] Cw D8 ?_ ?_
  ·intro K9
   refine AH I (fun hc1=>?_) (fun hc1=>?_)
   ·try simp only [dz] at hc1
    have hgt:vA w (f+(2*r+1))<=vA w (f+(2*r+2)):=by rw [show f+(2*r+2)=f+(2*r+1)+1 from rfl];unfold vA at *;omega
    refine AD<|wM I I<|A2 (AN (j:=1) I I) I<|wA I I<|AW<|Av (K9 (2*r+1+1) (⟨by (try dsimp only);omega,UZ hgt⟩))
   try simp only [dz] at hc1
   have hngt:2*r+2<hi ->vA w (f+(2*r+2))<=vA w (f+(2*r+1)):=by rw [show f+(2*r+2)=f+(2*r+1)+1 from rfl];unfold vA at *;omega
   refine AA<|Av (K9 (2*r+1) (⟨by (try dsimp only);omega,Nt hngt⟩))
  rintro c ⟨hc,hmx⟩
  simp only [List.cons_append,List.nil_append]
  refine A5 K6<|A7 fun _ K10=>A7 fun _ K11=>BC CE [Aa (some ga) cap 1 42 (eU .u32 (w:=32)) w] (fun i=>([2,2,2,2,2,2,2,2,2,2,2,2,1,2]:List Nat).getD i 0) ?_
  refine jM 0 I I I hp<|jM 1 I I I hp<|jM 2 I I I hp<|jP 3 I (AN I I) I hp<|jP 4 I (AT (f+r) I I B2 BI (hj:=by omega)) I hp ?_
  refine jT 5 I (AU (i:=f+r) (j:=0) I BX (hl:=BY (l:=w) (by omega))) I hp AQ ?_
  refine jM 6 I I I hp<|jM 7 I I I hp<|jM 8 I I I hp<|jP 9 I (AN I I) I hp<|jP 10 I (AT (f+c) I I B2 BI (hj:=by omega)) I hp ?_
  refine jT 11 I (AU (i:=f+c) (j:=0) I BX (hl:=BY (l:=w) (by omega))) I hp AQ ?_
  refine jO 12<|B7 I (AE FC I (hs:=D3 (x:=w.getD (f+r) 0#32) (y:=w.getD (f+c) 0#32))) I I I I ?_
  rintro _ _ ⟨⟨⟩,rfl,hA⟩
  simp only [ca] at hA
  subst hA
  refine⟨(fun _=>AQ),?_⟩
  refine jP 13 I (Au I) I hp<|jD<|A5 K11<|AH I (fun hc2=>?_) (fun hc2=>?_)
  ·try simp only [dz] at hc2
   have hge:vA w (f+c)<=vA w (f+r):=by unfold vA at *;omega
   refine AK ?_
   exact hret.go ⟨w,hsw,PC hx fun e h1 h2=>Nat.le_trans (hmx e h1 h2) hge⟩ (Ke rfl)
  try simp only [dz] at hc2
  have hlt:vA w (f+r)<=vA w (f+c):=by unfold vA at *;omega
  refine AA<|A5 K10<|A7 fun _ K12=>Am CE (jz [21,23] 24) ?_
  refine jM 0 I I I hp<|jM 1 I I I hp<|jM 2 I I I hp<|jP 3 I (AN I I) I hp<|jM 4 I I I hp<|jM 5 I I I hp<|jM 6 I I I hp<|jP 7 I (AN I I) I hp<|jM 8 I I I hp<|jM 9 I I I hp<|jM 10 I I I hp<|jP 11 I (AN I I) I hp<|jP 12 I (AT (f+c) I I B2 BI (hj:=by omega)) I hp ?_
  refine jT 13 I (AU (i:=f+c) (j:=0) I BX (hl:=BY (l:=w) (by omega))) I hp AQ ?_
  refine jM 14 I I I hp<|jM 15 I I I hp<|jM 16 I I I hp<|jP 17 I (AN I I) I hp<|jP 18 I (AT (f+r) I I B2 BI (hj:=by omega)) I hp ?_
  refine jT 19 I (AU (i:=f+r) (j:=0) I BX (hl:=BY (l:=w) (by omega))) I hp AQ ?_
  refine jP 20 I (AT (f+r) I I B2 BI (hj:=by omega)) I hp ?_
  refine jO 21<|EN I (Aq (w.getD (f+c) 0#32) I I BI (i:=f+r) (j:=0) (hl:=BY (l:=w) (by omega))) I ?_
  rintro _ _ rfl
  refine jP 22 I (AT (f+c) I I B2 BI (hj:=by omega)) I hp ?_
  refine jO 23<|EN I (Aq (w.getD (f+r) 0#32) I I BI (i:=f+c) (j:=0) (hl:=BY (by rw [List.length_set];omega))) I ?_
  rintro _ _ rfl
  refine jD<|A5 K12<|AD ?_
  rw [show (w.set (f+r) (w.getD (f+c) 0#32)).set (f+c) (w.getD (f+r) 0#32)=Ex w (f+r) (f+c) from rfl]
  refine wM I I<|wA I I<|AW<|Av (K2 ⟨c,Ex w (f+r) (f+c)⟩ (⟨by (try dsimp only);omega,Qu hx (by omega) hc.1 hc.2 hlt hmx,.step hsw (by omega) (by omega) (by omega) (by omega),by(try dsimp only);rw [D6];exact hwl⟩) (by (try dsimp only);omega))
 try simp only [dz] at hg8
 refine jK 5 I I hp<|jK 6 I I hp<|jK 7 I I hp<|jK 8 I I hp<|jK 9 I I hp<|jK 10 I I hp<|jK 11 I I hp<|jK 12 I I hp<|jK 13 I I hp<|jK 14 I I hp<|jK 15 I I hp<|jK 16 I I hp<|jK 17 I I hp<|jO 18<|CN I I I I (fun _=>AQ) ?_
 refine jP 19 I (A8 I I) I hp<|jD<|A5 K7<|Cx (B0:= []) (σ:=Nat) (fun c=> [(9,.int .i64 ((c:Nat):Int))]) (fun c=> []) (fun c=>((c=2*r+1\/c=2*r+2)/\c<hi)/\(∀e,(e=2*r+1\/e=2*r+2) ->e<hi ->vA w (f+e)<=vA w (f+c))) [0,2,3,8,11,12,13,14,15,16,17,18,19,20,21,22,23,24,25,26,27,28,29,30,31,32,33,34,35,36,39,40,41,42,43,44,45,46,47,48,49,50,51,52,53,54,55,56,57,58,59,60,61,62,63,64,65,66,67,68,69,70,71,72,73,74,75] Cw D8 ?_ ?_
 ·intro K13
  refine AM I ?_
  have hngt:2*r+2<hi ->vA w (f+(2*r+2))<=vA w (f+(2*r+1)):=by rw [show f+(2*r+2)=f+(2*r+1)+1 from rfl];unfold vA at *;omega
  refine AA<|Av (K13 (2*r+1) (⟨by (try dsimp only);omega,Nt hngt⟩))
 rintro c ⟨hc,hmx⟩
 simp only [List.cons_append,List.nil_append]
 refine A5 K6<|A7 fun _ K14=>A7 fun _ K15=>BC CE [Aa (some ga) cap 1 42 (eU .u32 (w:=32)) w] (fun i=>([2,2,2,2,2,2,2,2,2,2,2,2,1,2]:List Nat).getD i 0) ?_
 refine jM 0 I I I hp<|jM 1 I I I hp<|jM 2 I I I hp<|jP 3 I (AN I I) I hp<|jP 4 I (AT (f+r) I I B2 BI (hj:=by omega)) I hp ?_
 refine jT 5 I (AU (i:=f+r) (j:=0) I BX (hl:=BY (l:=w) (by omega))) I hp AQ ?_
 refine jM 6 I I I hp<|jM 7 I I I hp<|jM 8 I I I hp<|jP 9 I (AN I I) I hp<|jP 10 I (AT (f+c) I I B2 BI (hj:=by omega)) I hp ?_
 refine jT 11 I (AU (i:=f+c) (j:=0) I BX (hl:=BY (l:=w) (by omega))) I hp AQ ?_
 refine jO 12<|B7 I (AE FC I (hs:=D3 (x:=w.getD (f+r) 0#32) (y:=w.getD (f+c) 0#32))) I I I I ?_
 rintro _ _ ⟨⟨⟩,rfl,hA⟩
 simp only [ca] at hA
 subst hA
 refine⟨(fun _=>AQ),?_⟩
 refine jP 13 I (Au I) I hp<|jD<|A5 K15<|AH I (fun hc2=>?_) (fun hc2=>?_)
 ·try simp only [dz] at hc2
  have hge:vA w (f+c)<=vA w (f+r):=by unfold vA at *;omega
  refine AK ?_
  exact hret.go ⟨w,hsw,PC hx fun e h1 h2=>Nat.le_trans (hmx e h1 h2) hge⟩ (Ke rfl)
 try simp only [dz] at hc2
 have hlt:vA w (f+r)<=vA w (f+c):=by unfold vA at *;omega
 refine AA<|A5 K14<|A7 fun _ K16=>Am CE (jz [21,23] 24) ?_
 refine jM 0 I I I hp<|jM 1 I I I hp<|jM 2 I I I hp<|jP 3 I (AN I I) I hp<|jM 4 I I I hp<|jM 5 I I I hp<|jM 6 I I I hp<|jP 7 I (AN I I) I hp<|jM 8 I I I hp<|jM 9 I I I hp<|jM 10 I I I hp<|jP 11 I (AN I I) I hp<|jP 12 I (AT (f+c) I I B2 BI (hj:=by omega)) I hp ?_
 refine jT 13 I (AU (i:=f+c) (j:=0) I BX (hl:=BY (l:=w) (by omega))) I hp AQ ?_
 refine jM 14 I I I hp<|jM 15 I I I hp<|jM 16 I I I hp<|jP 17 I (AN I I) I hp<|jP 18 I (AT (f+r) I I B2 BI (hj:=by omega)) I hp ?_
 refine jT 19 I (AU (i:=f+r) (j:=0) I BX (hl:=BY (l:=w) (by omega))) I hp AQ ?_
 refine jP 20 I (AT (f+r) I I B2 BI (hj:=by omega)) I hp ?_
 refine jO 21<|EN I (Aq (w.getD (f+c) 0#32) I I BI (i:=f+r) (j:=0) (hl:=BY (l:=w) (by omega))) I ?_
 rintro _ _ rfl
 refine jP 22 I (AT (f+c) I I B2 BI (hj:=by omega)) I hp ?_
 refine jO 23<|EN I (Aq (w.getD (f+r) 0#32) I I BI (i:=f+c) (j:=0) (hl:=BY (by rw [List.length_set];omega))) I ?_
 rintro _ _ rfl
 refine jD<|A5 K16<|AD ?_
 rw [show (w.set (f+r) (w.getD (f+c) 0#32)).set (f+c) (w.getD (f+r) 0#32)=Ex w (f+r) (f+c) from rfl]
 refine wM I I<|wA I I<|AW<|Av (K2 ⟨c,Ex w (f+r) (f+c)⟩ (⟨by (try dsimp only);omega,Qu hx (by omega) hc.1 hc.2 hlt hmx,.step hsw (by omega) (by omega) (by omega) (by omega),by(try dsimp only);rw [D6];exact hwl⟩) (by (try dsimp only);omega))

theorem Zs{ga cap n a b:Nat}{l:List Bv}(hl:l.length=n)(hn:n<=1000)(hab:a<b)(hb:b<=n):Ct Tryz.prog 106 [sl (some ga) n cap,.int .i64 ((a:Nat):Int),.int .i64 ((b:Nat):Int)] [Aa (some ga) cap 1 42 (eU .u32 (w:=32)) l] (fun g: {m:List Bv // SwR a b l m/\G1 m a b} =>.tuple #[]) (fun g=> [Aa (some ga) cap 1 42 (eU .u32 (w:=32)) g.1]):=by
 refine AY (n:=56) Tryz.func106 I I I fun F w0 Q hret hnorm hp=>?_
 change WC _ _ _ _ _ _ _ (_::F)
 refine A4 fun _ K1=>wM I I<|wA I I<|A3 K1<|A4 fun _ K2=>wA I I<|A3 K2<|A4 fun _ K3=>wM I I<|wM I I<|A2 (Ax I I) I<|wA I I<|A3 K3<|A7 fun _ K4=>A4 fun _ K5=>?_
 refine wM I I<|A2 (Ax (j:=1) I I) I<|A2 (F4 (j:=2) I I) I ?_
 refine A2 (AL (v:=.int .i64 ((((b -a -1) / 2+1:Nat):Int) -1)) (Ag I) (by congr 1;omega)) I ?_
 refine A3 K5<|AG<|Ak (σ:=Nat × (List Bv)) (fun ⟨c,w⟩=> [(9,.int .i64 (((c:Nat):Int) -1))]) (fun ⟨c,w⟩=> [Aa (some ga) cap 1 42 (eU .u32 (w:=32)) w]) (fun ⟨c,w⟩=>c<=1000/\SwR a b l w/\XX w a c (b -a)/\w.length=n) (fun ⟨c,w⟩=>c) ⟨(b -a -1) / 2+1,l⟩ [0,6,7,8,10,27,28,29,30,31,32,33,34,35,36,37,38,39,40,41,42,43,44,45,46,47,48,49,50,51,52,53,54] Cw D8 ?_ ?_ Sub.refl ?_
 ·exact⟨by omega,.refl,XW (by omega),hl⟩
 ·(try dsimp only);exact(Wk.cons Ch Wk.nil)
 rintro⟨c,w⟩ ⟨hc,hsw,hhp,hwl⟩ K6 K6
 simp only [List.cons_append,List.nil_append]
 refine A7 fun _ K7=>A4 fun _ K8=>wM I I<|A2 (Dm I I) I ?_
 refine A3 K8<|AH I (fun hc0=>?_) (fun hc0=>?_)
 ·try simp only [dz] at hc0
  obtain⟨k,rfl⟩: ∃k,c=k+1:=⟨c -1,by omega⟩
  refine AA<|A5 K7<|A7 fun _ K9=>AG<|AD<|wM I I<|A2 (AL (v:=.int .i64 ((k:Nat):Int)) (JF I) (by congr 1;omega)) I ?_
  refine wM I I<|wM I I<|AB (AE cB I (hs:=TD (l:=w) (lo:=k) (hi:=b -a) (f:=a) hwl hn (by omega) (by omega) hhp)) I I I ?_
  rintro _ _ ⟨⟨m,hsm,hhm⟩,rfl,hA⟩
  simp only [ca] at hA
  subst hA
  refine AW<|A5 K9<|AD<|wM I I<|A2 (GY (r:=((k:Nat):Int) -1) I I (JV (by omega) (by omega) (by omega))) I ?_
  refine wA I I<|AW<|Av (K6 ⟨k,m⟩ (⟨by (try dsimp only);omega,hsw.trans (hsm.wide (Nat.le_refl _) (by omega)),hhm,by(try dsimp only);rw [hsm.len];exact hwl⟩) (by (try dsimp only);omega))
 try simp only [dz] at hc0
 obtain rfl:c=0:=by omega
 refine Aj<|A5 K4<|A4 fun _ K10=>wM I I<|A2 (Ax (j:=1) I I) I<|A2 (AL (v:=.int .i64 (((b -a:Nat):Int) -1)) (Ag I) (by congr 1;omega)) I ?_
 refine A3 K10<|AG<|Ak (σ:=Nat × (List Bv)) (fun ⟨e,w⟩=> [(10,.int .i64 (((e:Nat):Int) -1))]) (fun ⟨e,w⟩=> [Aa (some ga) cap 1 42 (eU .u32 (w:=32)) w]) (fun ⟨e,w⟩=>e<=b -a/\SwR a b l w/\XX w a 0 e/\Jb w a (a+(b -a)) a (a+e)/\w.length=n) (fun ⟨e,w⟩=>e) ⟨b -a,w⟩ [0,6,7] Cw D8 ?_ ?_ Sub.refl ?_
 ·exact⟨Nat.le_refl _,hsw,hhp,QS,hwl⟩
 ·(try dsimp only);exact(Wk.cons Ch Wk.nil)
 rintro⟨e,w⟩ ⟨he,hsw,hhp,hor,hwl⟩ K11 K11
 simp only [List.cons_append,List.nil_append]
 refine A7 fun _ K12=>A4 fun _ K13=>wM I I<|A2 (Dm I I) I ?_
 refine A3 K13<|AH I (fun hc1=>?_) (fun hc1=>?_)
 ·try simp only [dz] at hc1
  obtain⟨k,rfl⟩: ∃k,e=k+1:=⟨e -1,by omega⟩
  refine AA<|A5 K12<|A7 fun _ K14=>AG<|A7 fun _ K15=>Am CE (jz [17,19] 20) ?_
  refine jM 0 I I I hp<|jM 1 I I I hp<|jM 2 I I I hp<|jM 3 I I I hp<|jP 4 I (AL (v:=.int .i64 ((k:Nat):Int)) (JF I) (by congr 1;omega)) I hp ?_
  refine jP 5 I (AN I I) I hp<|jM 6 I I I hp<|jM 7 I I I hp<|jP 8 I (AL (v:=.int .i64 ((k:Nat):Int)) (JF I) (by congr 1;omega)) I hp ?_
  refine jP 9 I (AN I I) I hp<|jP 10 I (AT (a+k) I I B2 BI (hj:=by omega)) I hp ?_
  refine jT 11 I (AU (i:=a+k) (j:=0) I BX (hl:=BY (l:=w) (by omega))) I hp AQ ?_
  refine jM 12 I I I hp<|jM 13 I I I hp<|jP 14 I (AT (a) I I B2 BI (hj:=by omega)) I hp ?_
  refine jT 15 I (AU (i:=a) (j:=0) I BX (hl:=BY (l:=w) (by omega))) I hp AQ ?_
  refine jP 16 I (AT (a) I I B2 BI (hj:=by omega)) I hp ?_
  refine jO 17<|EN I (Aq (w.getD (a+k) 0#32) I I BI (i:=a) (j:=0) (hl:=BY (l:=w) (by omega))) I ?_
  rintro _ _ rfl
  refine jP 18 I (AT (a+k) I I B2 BI (hj:=by omega)) I hp ?_
  refine jO 19<|EN I (Aq (w.getD (a) 0#32) I I BI (i:=a+k) (j:=0) (hl:=BY (by rw [List.length_set];omega))) I ?_
  rintro _ _ rfl
  refine jD<|A5 K15<|AD ?_
  rw [show (w.set (a) (w.getD (a+k) 0#32)).set (a+k) (w.getD (a) 0#32)=Ex w (a) (a+k) from rfl]
  refine wM I I<|wM I I<|A2 (AL (v:=.int .i64 ((k:Nat):Int)) (JF I) (by congr 1;omega)) I ?_
  refine wM I I<|AB (AE cB I (hs:=TD (l:=Ex w a (a+k)) (lo:=0) (hi:=k) (f:=a) (by rw [D6];exact hwl) hn (by omega) (by omega) (XV hhp (by omega)))) I I I ?_
  rintro _ _ ⟨⟨m,hsm,hhm⟩,rfl,hA⟩
  simp only [ca] at hA
  subst hA
  refine AW<|A5 K14<|AD<|wM I I<|A2 (GY (r:=((k:Nat):Int) -1) I I (JV (by omega) (by omega) (by omega))) I ?_
  refine wA I I<|AW<|Av (K11 ⟨k,m⟩ (⟨by (try dsimp only);omega,(SwR.step hsw (by omega) (by omega) (by omega) (by omega)).trans (hsm.wide (Nat.le_refl _) (by omega)),hhm,EA (Uq hhp hor (by omega) (by omega)) hsm (Nat.le_refl _) (by omega) (by rw [D6];omega),by(try dsimp only);rw [hsm.len,D6];exact hwl⟩) (by (try dsimp only);omega))
 try simp only [dz] at hc1
 obtain rfl:e=0:=by omega
 refine Aj ?_
 exact hnorm.go ⟨w,hsw,fun p q h0 h1 h2=>hor p q h0 h1 (by omega) (.inr (by omega))⟩ (Ke rfl)
end Go.Proofs.YtoakfknnaiapiaaGreat
namespace Go.Proofs.YtoakfknnaiapiaaGreat
open Go.RowKit Go.SL Go.ShM Go.SvM
set_option maxHeartbeats 1000000
set_option maxRecDepth 20000
set_option linter.all false

theorem Iy{ga cap n a b:Nat}{l:List Bv}{p:Nat}(hl:l.length=n)(hn:n<=1000)(hap:a<=p)(hpb:p<b)(hb:b<=n):Ct Tryz.prog 113 [sl (some ga) n cap,.int .i64 ((a:Nat):Int),.int .i64 ((b:Nat):Int),.int .i64 ((p:Nat):Int)] [Aa (some ga) cap 1 42 (eU .u32 (w:=32)) l] (fun g: {q:Nat × Bool × List Bv // SwR a b l q.2.2/\Cut q.2.2 a b q.1} =>.tuple #[.int .i64 ((g.1.1:Nat):Int),.bool g.1.2.1]) (fun g=> [Aa (some ga) cap 1 42 (eU .u32 (w:=32)) g.1.2.2]):=by
 refine AY (n:=168) Tryz.func113 I I I fun F w0 Q hret hnorm hp=>?_
 change WC _ _ _ _ _ _ _ (_::F)
 refine A4 fun _ K1=>wA I I<|wA I I<|A3 K1<|A7 fun _ K2=>Am CE (jz [13,15] 16) ?_
 refine jM 0 I I I hp<|jM 1 I I I hp<|jM 2 I I I hp<|jM 3 I I I hp<|jM 4 I I I hp<|jM 5 I I I hp<|jP 6 I (AT (p) I I B2 BI (hj:=by omega)) I hp ?_
 refine jT 7 I (AU (i:=p) (j:=0) I BX (hl:=BY (l:=l) (by omega))) I hp AQ ?_
 refine jM 8 I I I hp<|jM 9 I I I hp<|jP 10 I (AT (a) I I B2 BI (hj:=by omega)) I hp ?_
 refine jT 11 I (AU (i:=a) (j:=0) I BX (hl:=BY (l:=l) (by omega))) I hp AQ ?_
 refine jP 12 I (AT (a) I I B2 BI (hj:=by omega)) I hp ?_
 refine jO 13<|EN I (Aq (l.getD (p) 0#32) I I BI (i:=a) (j:=0) (hl:=BY (l:=l) (by omega))) I ?_
 rintro _ _ rfl
 refine jP 14 I (AT (p) I I B2 BI (hj:=by omega)) I hp ?_
 refine jO 15<|EN I (Aq (l.getD (a) 0#32) I I BI (i:=p) (j:=0) (hl:=BY (by rw [List.length_set];omega))) I ?_
 rintro _ _ rfl
 refine jD<|A5 K2<|A4 fun _ K3=>?_
 rw [show (l.set (a) (l.getD (p) 0#32)).set (p) (l.getD (a) 0#32)=Ex l (a) (p) from rfl]
 obtain⟨w,hw⟩: ∃w,w=Ex l a p:=⟨_,rfl⟩
 rw [<-hw]
 have hwl:w.length=n:=by rw [hw,D6];exact hl
 have hsw:SwR a b l w:=by rw [hw];exact .step .refl (by omega) (by omega) hap hpb
 clear hw
 refine wM I I<|A2 (AN (j:=1) I I) I<|wM I I<|A2 (Ax (j:=1) I I) I<|wA I I<|wA I I<|A3 K3<|A7 fun _ K4=>Cx (B0:= []) (σ:=Nat) (fun i=> [(10,.int .i64 ((i:Nat):Int))]) (fun i=> []) (fun i=>(a+1<=i/\i<=b)/\U5 w a i/\(i<=b -1 ->vA w a<=vA w i)) [0,1,8,9,11,46,47,48,49,50,51,52,53,54,55,56,57,58,59,60,61,62,63,64,65,66,67,68,69,70,71,72,73,74,75,76,77,78,79,80,81,82,83,84,85,86,87,88,89,90,91,92,93,94,95,96,97,98,99,100,101,102,103,104,105,106,107,108,109,110,111,112,113,114,115,116,117,118,119,120,121,122,123,124,125,126,127,128,129,130,131,132,133,134,135,136,137,138,139,140,141,142,143,144,145,146,147,148,149,150,151,152,153,154,155,156,157,158,159,160,161,162,163,164,165,166,167] Cw D8 ?_ ?_
 ·intro K5
  refine AG<|Ak (σ:=Nat) (fun i=> [(10,.int .i64 ((i:Nat):Int))]) (fun i=> []) (fun i=>(a+1<=i/\i<=b)/\U5 w a i) (fun i=>b -i) (a+1) [0,1,8,9,11,46,47,48,49,50,51,52,53,54,55,56,57,58,59,60,61,62,63,64,65,66,67,68,69,70,71,72,73,74,75,76,77,78,79,80,81,82,83,84,85,86,87,88,89,90,91,92,93,94,95,96,97,98,99,100,101,102,103,104,105,106,107,108,109,110,111,112,113,114,115,116,117,118,119,120,121,122,123,124,125,126,127,128,129,130,131,132,133,134,135,136,137,138,139,140,141,142,143,144,145,146,147,148,149,150,151,152,153,154,155,156,157,158,159,160,161,162,163,164,165,166,167] Cw D8 ?_ ?_ Sub.refl ?_
  ·exact⟨by omega,fun k h1 h2=>by omega⟩
  ·(try dsimp only);exact(Wk.cons Ch Wk.nil)
  rintro i ⟨hi,hlo⟩ K6 K6
  simp only [List.cons_append,List.nil_append]
  refine A7 fun _ K7=>A7 fun _ K8=>BC CE [Aa (some ga) cap 1 42 (eU .u32 (w:=32)) w] (fun i=>([2,2,2,2,2,2,2,2,2,2,2,2,1,2]:List Nat).getD i 0) ?_
  refine jM 0 I I I hp<|jM 1 I I I hp<|jP 2 I (D5 I I) I hp ?_
  refine jM 3 I I I hp<|Be 33 I (fun hg9=>?_) (fun hg9=>?_)
  ·try simp only [dz] at hg9
   refine jM 4 I I I hp<|jM 5 I I I hp<|jP 6 I (AT (i) I I B2 BI (hj:=by omega)) I hp ?_
   refine jT 7 I (AU (i:=i) (j:=0) I BX (hl:=BY (l:=w) (by omega))) I hp AQ ?_
   refine jM 8 I I I hp<|jM 9 I I I hp<|jP 10 I (AT (a) I I B2 BI (hj:=by omega)) I hp ?_
   refine jT 11 I (AU (i:=a) (j:=0) I BX (hl:=BY (l:=w) (by omega))) I hp AQ ?_
   refine jO 12<|B7 I (AE FC I (hs:=D3 (x:=w.getD (i) 0#32) (y:=w.getD (a) 0#32))) I I I I ?_
   rintro _ _ ⟨⟨⟩,rfl,hA⟩
   simp only [ca] at hA
   subst hA
   refine⟨(fun _=>AQ),?_⟩
   refine jP 13 I (AC I I) I hp<|jD<|A5 K8<|AH I (fun hc0=>?_) (fun hc0=>?_)
   ·try simp only [dz] at hc0
    have hli:vA w i<=vA w a:=by unfold vA at *;omega
    refine AA<|A5 K7<|AG<|AD<|wM I I<|A2 (AN (j:=1) I I) I<|wA I I<|AW<|Av (K6 (i+1) (⟨by omega,Ng hlo hli⟩) (by omega))
   try simp only [dz] at hc0
   have hI:i<=b -1 ->vA w a<=vA w i:=by unfold vA at *;omega
   refine Aj<|Av (K5 (i) (⟨hi,hlo,hI⟩))
  try simp only [dz] at hg9
  refine jK 4 I I hp<|jK 5 I I hp<|jK 6 I I hp<|jK 7 I I hp<|jK 8 I I hp<|jK 9 I I hp<|jK 10 I I hp<|jK 11 I I hp<|jO 12<|CN I I I I (fun _=>AQ) ?_
  refine jP 13 I (A8 I I) I hp<|jD<|A5 K8<|AM I ?_
  have hI:i<=b -1 ->vA w a<=vA w i:=by unfold vA at *;omega
  refine Aj<|Av (K5 (i) (⟨hi,hlo,hI⟩))
 rintro i ⟨hi,hlo,hI⟩
 simp only [List.cons_append,List.nil_append]
 refine A5 K4<|A7 fun _ K10=>Cx (B0:= []) (σ:=Nat) (fun j=> [(11,.int .i64 ((j:Nat):Int))]) (fun j=> []) (fun j=>(i<=j+1/\j<b)/\Yw w a j b/\(i<=j ->vA w j<vA w a)) [0,1,8,9,10,63,64,65,66,67,68,69,70,71,72,73,74,75,76,77,78,79,80,81,82,83,84,85,86,87,88,89,90,91,92,93,94,95,96,97,98,99,100,101,102,103,104,105,106,107,108,109,110,111,112,113,114,115,116,117,118,119,120,121,122,123,124,125,126,127,128,129,130,131,132,133,134,135,136,137,138,139,140,141,142,143,144,145,146,147,148,149,150,151,152,153,154,155,156,157,158,159,160,161,162,163,164,165,166,167] Cw D8 ?_ ?_
 ·intro K11
  refine AG<|Ak (σ:=Nat) (fun j=> [(11,.int .i64 ((j:Nat):Int))]) (fun j=> []) (fun j=>(i<=j+1/\j<b)/\Yw w a j b) (fun j=>j) (b -1) [0,1,8,9,10,63,64,65,66,67,68,69,70,71,72,73,74,75,76,77,78,79,80,81,82,83,84,85,86,87,88,89,90,91,92,93,94,95,96,97,98,99,100,101,102,103,104,105,106,107,108,109,110,111,112,113,114,115,116,117,118,119,120,121,122,123,124,125,126,127,128,129,130,131,132,133,134,135,136,137,138,139,140,141,142,143,144,145,146,147,148,149,150,151,152,153,154,155,156,157,158,159,160,161,162,163,164,165,166,167] Cw D8 ?_ ?_ Sub.refl ?_
  ·exact⟨by omega,fun k h1 h2=>by omega⟩
  ·(try dsimp only);exact(Wk.cons Ch Wk.nil)
  rintro j ⟨hj,hhi⟩ K12 K12
  simp only [List.cons_append,List.nil_append]
  refine A7 fun _ K13=>A7 fun _ K14=>BC CE [Aa (some ga) cap 1 42 (eU .u32 (w:=32)) w] (fun i=>([2,2,2,2,2,2,2,2,2,2,2,2,1,2,2]:List Nat).getD i 0) ?_
  refine jM 0 I I I hp<|jM 1 I I I hp<|jP 2 I (D5 I I) I hp ?_
  refine jM 3 I I I hp<|Be 49 I (fun hg15=>?_) (fun hg15=>?_)
  ·try simp only [dz] at hg15
   refine jM 4 I I I hp<|jM 5 I I I hp<|jP 6 I (AT (j) I I B2 BI (hj:=by omega)) I hp ?_
   refine jT 7 I (AU (i:=j) (j:=0) I BX (hl:=BY (l:=w) (by omega))) I hp AQ ?_
   refine jM 8 I I I hp<|jM 9 I I I hp<|jP 10 I (AT (a) I I B2 BI (hj:=by omega)) I hp ?_
   refine jT 11 I (AU (i:=a) (j:=0) I BX (hl:=BY (l:=w) (by omega))) I hp AQ ?_
   refine jO 12<|B7 I (AE FC I (hs:=D3 (x:=w.getD (j) 0#32) (y:=w.getD (a) 0#32))) I I I I ?_
   rintro _ _ ⟨⟨⟩,rfl,hA⟩
   simp only [ca] at hA
   subst hA
   refine⟨(fun _=>AQ),?_⟩
   refine jP 13 I (Au I) I hp<|jP 14 I (AC I I) I hp<|jD<|A5 K14<|AH I (fun hc1=>?_) (fun hc1=>?_)
   ·try simp only [dz] at hc1
    have hlj:vA w a<=vA w j:=by unfold vA at *;omega
    refine AA<|A5 K13<|AG<|AD<|wM I I<|A2 (Ax (j:=1) I I) I<|wA I I<|AW<|Av (K12 (j -1) (⟨by omega,Rk hhi hlj⟩) (by omega))
   try simp only [dz] at hc1
   have hJ:i<=j ->vA w j<vA w a:=by unfold vA at *;omega
   refine Aj<|Av (K11 (j) (⟨hj,hhi,hJ⟩))
  try simp only [dz] at hg15
  refine jK 4 I I hp<|jK 5 I I hp<|jK 6 I I hp<|jK 7 I I hp<|jK 8 I I hp<|jK 9 I I hp<|jK 10 I I hp<|jK 11 I I hp<|jO 12<|CN I I I I (fun _=>AQ) ?_
  refine jK 13 I I hp<|jP 14 I (A8 I I) I hp<|jD<|A5 K14<|AM I ?_
  have hJ:i<=j ->vA w j<vA w a:=by unfold vA at *;omega
  refine Aj<|Av (K11 (j) (⟨hj,hhi,hJ⟩))
 rintro j ⟨hj,hhi,hJ⟩
 simp only [List.cons_append,List.nil_append]
 refine A5 K10<|A7 fun _ K16=>A4 fun _ K17=>wM I I<|wM I I<|A2 (Bz I I) I ?_
 refine A3 K17<|AH I (fun hc2=>?_) (fun hc2=>?_)
 ·try simp only [dz] at hc2
  refine A7 fun _ K18=>Am CE (jz [13,15] 16) ?_
  refine jM 0 I I I hp<|jM 1 I I I hp<|jM 2 I I I hp<|jM 3 I I I hp<|jM 4 I I I hp<|jM 5 I I I hp<|jP 6 I (AT (a) I I B2 BI (hj:=by omega)) I hp ?_
  refine jT 7 I (AU (i:=a) (j:=0) I BX (hl:=BY (l:=w) (by omega))) I hp AQ ?_
  refine jM 8 I I I hp<|jM 9 I I I hp<|jP 10 I (AT (j) I I B2 BI (hj:=by omega)) I hp ?_
  refine jT 11 I (AU (i:=j) (j:=0) I BX (hl:=BY (l:=w) (by omega))) I hp AQ ?_
  refine jP 12 I (AT (j) I I B2 BI (hj:=by omega)) I hp ?_
  refine jO 13<|EN I (Aq (w.getD (a) 0#32) I I BI (i:=j) (j:=0) (hl:=BY (l:=w) (by omega))) I ?_
  rintro _ _ rfl
  refine jP 14 I (AT (a) I I B2 BI (hj:=by omega)) I hp ?_
  refine jO 15<|EN I (Aq (w.getD (j) 0#32) I I BI (i:=a) (j:=0) (hl:=BY (by rw [List.length_set];omega))) I ?_
  rintro _ _ rfl
  refine jD<|A5 K18<|A4 fun _ K19=>?_
  rw [show (w.set (j) (w.getD (a) 0#32)).set (a) (w.getD (j) 0#32)=Ex w (j) (a) from rfl]
  refine wM I I<|wA I I<|wA I I<|A3 K19<|AK ?_
  exact hret.go ⟨(j,true,Ex w j a),.step hsw (by omega) (by omega) (by omega) (by omega),U7 hlo hhi (by omega) (by omega) (by omega) (by omega)⟩ (OV rfl rfl rfl)
 try simp only [dz] at hc2
 have hij:i<j:=Mv (by omega) (hJ (by omega)) (hI (by omega))
 refine AA<|A5 K16<|A7 fun _ K20=>Am CE (jz [13,15] 16) ?_
 refine jM 0 I I I hp<|jM 1 I I I hp<|jM 2 I I I hp<|jM 3 I I I hp<|jM 4 I I I hp<|jM 5 I I I hp<|jP 6 I (AT (j) I I B2 BI (hj:=by omega)) I hp ?_
 refine jT 7 I (AU (i:=j) (j:=0) I BX (hl:=BY (l:=w) (by omega))) I hp AQ ?_
 refine jM 8 I I I hp<|jM 9 I I I hp<|jP 10 I (AT (i) I I B2 BI (hj:=by omega)) I hp ?_
 refine jT 11 I (AU (i:=i) (j:=0) I BX (hl:=BY (l:=w) (by omega))) I hp AQ ?_
 refine jP 12 I (AT (i) I I B2 BI (hj:=by omega)) I hp ?_
 refine jO 13<|EN I (Aq (w.getD (j) 0#32) I I BI (i:=i) (j:=0) (hl:=BY (l:=w) (by omega))) I ?_
 rintro _ _ rfl
 refine jP 14 I (AT (j) I I B2 BI (hj:=by omega)) I hp ?_
 refine jO 15<|EN I (Aq (w.getD (i) 0#32) I I BI (i:=j) (j:=0) (hl:=BY (by rw [List.length_set];omega))) I ?_
 rintro _ _ rfl
 refine jD<|A5 K20<|A4 fun _ K21=>?_
 rw [show (w.set (i) (w.getD (j) 0#32)).set (j) (w.getD (i) 0#32)=Ex w (i) (j) from rfl]
 refine wM rfl rfl<|A2 (AN (j:=1) rfl rfl) rfl<|wA rfl rfl<|A3 K21<|A4 fun _ K22=>wM rfl rfl<|A2 (Ax (j:=1) rfl rfl) rfl<|wA rfl rfl<|A3 K22<|A7 fun _ K23=>AG<|Ak (σ:=Nat × Nat × (List Bv)) (fun ⟨i2,j2,v⟩=> [(10,.int .i64 ((i2:Nat):Int)),(11,.int .i64 ((j2:Nat):Int))]) (fun ⟨i2,j2,v⟩=> [Aa (some ga) cap 1 42 (eU .u32 (w:=32)) v]) (fun ⟨i2,j2,v⟩=>(a+1<=i2/\i2<=j2+1/\j2<b)/\U5 v a i2/\Yw v a j2 b/\SwR a b l v/\v.length=n) (fun ⟨i2,j2,v⟩=>j2) ⟨i+1,j -1,Ex w i j⟩ [0,1,8,9,153,154,155,156,157,158,159,160,161,162,163,164,165,166,167] Cw D8 ?_ ?_ Sub.refl ?_
 ·exact⟨by omega,Nf (by omega) hij (by omega) hlo (Nat.le_of_lt (hJ (by omega))),Rj (by omega) hij (by omega) hhi (hI (by omega)),.step hsw (by omega) (by omega) (by omega) (by omega),by rw [D6];exact hwl⟩
 ·(try dsimp only);exact(Wk.cons Ch (Wk.cons Ch Wk.nil))
 rintro⟨i2,j2,v⟩ ⟨hi2,hlo2,hhi2,hsv,hvl⟩ K24 K24
 simp only [List.cons_append,List.nil_append]
 refine AG<|A7 fun _ K25=>Cx (B0:= []) (σ:=Nat) (fun i3=> [(10,.int .i64 ((i3:Nat):Int))]) (fun i3=> []) (fun i3=>(a+1<=i3/\i3<=j2+1)/\U5 v a i3/\(i3<=j2 ->vA v a<=vA v i3)) [0,1,8,9,11,115,116,117,118,119,120,121,122,123,124,125,126,127,128,129,130,131,132,133,134,135,136,137,138,139,140,141,142,143,144,145,146,147,148,149,150,151,152,153,154,155,156,157,158,159,160,161,162,163,164,165,166,167] Cw D8 ?_ ?_
 ·intro K26
  refine AG<|Ak (σ:=Nat) (fun i3=> [(10,.int .i64 ((i3:Nat):Int))]) (fun i3=> []) (fun i3=>(a+1<=i3/\i3<=j2+1)/\U5 v a i3) (fun i3=>j2+1 -i3) (i2) [0,1,8,9,11,115,116,117,118,119,120,121,122,123,124,125,126,127,128,129,130,131,132,133,134,135,136,137,138,139,140,141,142,143,144,145,146,147,148,149,150,151,152,153,154,155,156,157,158,159,160,161,162,163,164,165,166,167] Cw D8 ?_ ?_ Sub.refl ?_
  ·exact⟨by omega,hlo2⟩
  ·(try dsimp only);exact(Wk.cons Ch Wk.nil)
  rintro i3 ⟨hi3,hlo3⟩ K27 K27
  simp only [List.cons_append,List.nil_append]
  refine A7 fun _ K28=>A7 fun _ K29=>BC CE [Aa (some ga) cap 1 42 (eU .u32 (w:=32)) v] (fun i=>([2,2,2,2,2,2,2,2,2,2,2,2,1,2]:List Nat).getD i 0) ?_
  refine jM 0 I I I hp<|jM 1 I I I hp<|jP 2 I (D5 I I) I hp ?_
  refine jM 3 I I I hp<|Be 102 I (fun hg30=>?_) (fun hg30=>?_)
  ·try simp only [dz] at hg30
   refine jM 4 I I I hp<|jM 5 I I I hp<|jP 6 I (AT (i3) I I B2 BI (hj:=by omega)) I hp ?_
   refine jT 7 I (AU (i:=i3) (j:=0) I BX (hl:=BY (l:=v) (by omega))) I hp AQ ?_
   refine jM 8 I I I hp<|jM 9 I I I hp<|jP 10 I (AT (a) I I B2 BI (hj:=by omega)) I hp ?_
   refine jT 11 I (AU (i:=a) (j:=0) I BX (hl:=BY (l:=v) (by omega))) I hp AQ ?_
   refine jO 12<|B7 I (AE FC I (hs:=D3 (x:=v.getD (i3) 0#32) (y:=v.getD (a) 0#32))) I I I I ?_
   rintro _ _ ⟨⟨⟩,rfl,hA⟩
   simp only [ca] at hA
   subst hA
   refine⟨(fun _=>AQ),?_⟩
   refine jP 13 I (AC I I) I hp<|jD<|A5 K29<|AH I (fun hc3=>?_) (fun hc3=>?_)
   ·try simp only [dz] at hc3
    have hli:vA v i3<=vA v a:=by unfold vA at *;omega
    refine AA<|A5 K28<|AG<|AD<|wM I I<|A2 (AN (j:=1) I I) I<|wA I I<|AW<|Av (K27 (i3+1) (⟨by omega,Ng hlo3 hli⟩) (by omega))
   try simp only [dz] at hc3
   have hI3:i3<=j2 ->vA v a<=vA v i3:=by unfold vA at *;omega
   refine Aj<|Av (K26 (i3) (⟨hi3,hlo3,hI3⟩))
  try simp only [dz] at hg30
  refine jK 4 I I hp<|jK 5 I I hp<|jK 6 I I hp<|jK 7 I I hp<|jK 8 I I hp<|jK 9 I I hp<|jK 10 I I hp<|jK 11 I I hp<|jO 12<|CN I I I I (fun _=>AQ) ?_
  refine jP 13 I (A8 I I) I hp<|jD<|A5 K29<|AM I ?_
  have hI3:i3<=j2 ->vA v a<=vA v i3:=by unfold vA at *;omega
  refine Aj<|Av (K26 (i3) (⟨hi3,hlo3,hI3⟩))
 rintro i3 ⟨hi3,hlo3,hI3⟩
 simp only [List.cons_append,List.nil_append]
 refine A5 K25<|A7 fun _ K31=>Cx (B0:= []) (σ:=Nat) (fun j3=> [(11,.int .i64 ((j3:Nat):Int))]) (fun j3=> []) (fun j3=>(i3<=j3+1/\j3<=j2)/\Yw v a j3 b/\(i3<=j3 ->vA v j3<vA v a)) [0,1,8,9,10,99,100,101,102,103,104,105,106,107,108,109,110,111,112,113,114,132,133,134,135,136,137,138,139,140,141,142,143,144,145,146,147,148,149,150,151,152,153,154,155,156,157,158,159,160,161,162,163,164,165,166,167] Cw D8 ?_ ?_
 ·intro K32
  refine AG<|Ak (σ:=Nat) (fun j3=> [(11,.int .i64 ((j3:Nat):Int))]) (fun j3=> []) (fun j3=>(i3<=j3+1/\j3<=j2)/\Yw v a j3 b) (fun j3=>j3) (j2) [0,1,8,9,10,99,100,101,102,103,104,105,106,107,108,109,110,111,112,113,114,132,133,134,135,136,137,138,139,140,141,142,143,144,145,146,147,148,149,150,151,152,153,154,155,156,157,158,159,160,161,162,163,164,165,166,167] Cw D8 ?_ ?_ Sub.refl ?_
  ·exact⟨by omega,hhi2⟩
  ·(try dsimp only);exact(Wk.cons Ch Wk.nil)
  rintro j3 ⟨hj3,hhi3⟩ K33 K33
  simp only [List.cons_append,List.nil_append]
  refine A7 fun _ K34=>A7 fun _ K35=>BC CE [Aa (some ga) cap 1 42 (eU .u32 (w:=32)) v] (fun i=>([2,2,2,2,2,2,2,2,2,2,2,2,1,2,2]:List Nat).getD i 0) ?_
  refine jM 0 I I I hp<|jM 1 I I I hp<|jP 2 I (D5 I I) I hp ?_
  refine jM 3 I I I hp<|Be 118 I (fun hg36=>?_) (fun hg36=>?_)
  ·try simp only [dz] at hg36
   refine jM 4 I I I hp<|jM 5 I I I hp<|jP 6 I (AT (j3) I I B2 BI (hj:=by omega)) I hp ?_
   refine jT 7 I (AU (i:=j3) (j:=0) I BX (hl:=BY (l:=v) (by omega))) I hp AQ ?_
   refine jM 8 I I I hp<|jM 9 I I I hp<|jP 10 I (AT (a) I I B2 BI (hj:=by omega)) I hp ?_
   refine jT 11 I (AU (i:=a) (j:=0) I BX (hl:=BY (l:=v) (by omega))) I hp AQ ?_
   refine jO 12<|B7 I (AE FC I (hs:=D3 (x:=v.getD (j3) 0#32) (y:=v.getD (a) 0#32))) I I I I ?_
   rintro _ _ ⟨⟨⟩,rfl,hA⟩
   simp only [ca] at hA
   subst hA
   refine⟨(fun _=>AQ),?_⟩
   refine jP 13 I (Au I) I hp<|jP 14 I (AC I I) I hp<|jD<|A5 K35<|AH I (fun hc4=>?_) (fun hc4=>?_)
   ·try simp only [dz] at hc4
    have hlj:vA v a<=vA v j3:=by unfold vA at *;omega
    refine AA<|A5 K34<|AG<|AD<|wM I I<|A2 (Ax (j:=1) I I) I<|wA I I<|AW<|Av (K33 (j3 -1) (⟨by omega,Rk hhi3 hlj⟩) (by omega))
   try simp only [dz] at hc4
   have hJ3:i3<=j3 ->vA v j3<vA v a:=by unfold vA at *;omega
   refine Aj<|Av (K32 (j3) (⟨hj3,hhi3,hJ3⟩))
  try simp only [dz] at hg36
  refine jK 4 I I hp<|jK 5 I I hp<|jK 6 I I hp<|jK 7 I I hp<|jK 8 I I hp<|jK 9 I I hp<|jK 10 I I hp<|jK 11 I I hp<|jO 12<|CN I I I I (fun _=>AQ) ?_
  refine jK 13 I I hp<|jP 14 I (A8 I I) I hp<|jD<|A5 K35<|AM I ?_
  have hJ3:i3<=j3 ->vA v j3<vA v a:=by unfold vA at *;omega
  refine Aj<|Av (K32 (j3) (⟨hj3,hhi3,hJ3⟩))
 rintro j3 ⟨hj3,hhi3,hJ3⟩
 simp only [List.cons_append,List.nil_append]
 refine A5 K31<|A7 fun _ K37=>A4 fun _ K38=>wM I I<|wM I I<|A2 (Bz I I) I ?_
 refine A3 K38<|AH I (fun hc5=>?_) (fun hc5=>?_)
 ·try simp only [dz] at hc5
  refine Aj<|A5 K23<|A7 fun _ K39=>Am CE (jz [13,15] 16) ?_
  refine jM 0 I I I hp<|jM 1 I I I hp<|jM 2 I I I hp<|jM 3 I I I hp<|jM 4 I I I hp<|jM 5 I I I hp<|jP 6 I (AT (a) I I B2 BI (hj:=by omega)) I hp ?_
  refine jT 7 I (AU (i:=a) (j:=0) I BX (hl:=BY (l:=v) (by omega))) I hp AQ ?_
  refine jM 8 I I I hp<|jM 9 I I I hp<|jP 10 I (AT (j3) I I B2 BI (hj:=by omega)) I hp ?_
  refine jT 11 I (AU (i:=j3) (j:=0) I BX (hl:=BY (l:=v) (by omega))) I hp AQ ?_
  refine jP 12 I (AT (j3) I I B2 BI (hj:=by omega)) I hp ?_
  refine jO 13<|EN I (Aq (v.getD (a) 0#32) I I BI (i:=j3) (j:=0) (hl:=BY (l:=v) (by omega))) I ?_
  rintro _ _ rfl
  refine jP 14 I (AT (a) I I B2 BI (hj:=by omega)) I hp ?_
  refine jO 15<|EN I (Aq (v.getD (j3) 0#32) I I BI (i:=a) (j:=0) (hl:=BY (by rw [List.length_set];omega))) I ?_
  rintro _ _ rfl
  refine jD<|A5 K39<|A4 fun _ K40=>?_
  rw [show (v.set (j3) (v.getD (a) 0#32)).set (a) (v.getD (j3) 0#32)=Ex v (j3) (a) from rfl]
  refine wM I I<|wA I I<|wA I I<|A3 K40<|AK ?_
  exact hret.go ⟨(j3,false,Ex v j3 a),.step hsv (by omega) (by omega) (by omega) (by omega),U7 hlo3 hhi3 (by omega) (by omega) (by omega) (by omega)⟩ (OV rfl rfl rfl)
 try simp only [dz] at hc5
 have hij:i3<j3:=Mv (by omega) (hJ3 (by omega)) (hI3 (by omega))
 refine AA<|A5 K37<|A7 fun _ K41=>Am CE (jz [13,15] 16) ?_
 refine jM 0 I I I hp<|jM 1 I I I hp<|jM 2 I I I hp<|jM 3 I I I hp<|jM 4 I I I hp<|jM 5 I I I hp<|jP 6 I (AT (j3) I I B2 BI (hj:=by omega)) I hp ?_
 refine jT 7 I (AU (i:=j3) (j:=0) I BX (hl:=BY (l:=v) (by omega))) I hp AQ ?_
 refine jM 8 I I I hp<|jM 9 I I I hp<|jP 10 I (AT (i3) I I B2 BI (hj:=by omega)) I hp ?_
 refine jT 11 I (AU (i:=i3) (j:=0) I BX (hl:=BY (l:=v) (by omega))) I hp AQ ?_
 refine jP 12 I (AT (i3) I I B2 BI (hj:=by omega)) I hp ?_
 refine jO 13<|EN I (Aq (v.getD (j3) 0#32) I I BI (i:=i3) (j:=0) (hl:=BY (l:=v) (by omega))) I ?_
 rintro _ _ rfl
 refine jP 14 I (AT (j3) I I B2 BI (hj:=by omega)) I hp ?_
 refine jO 15<|EN I (Aq (v.getD (i3) 0#32) I I BI (i:=j3) (j:=0) (hl:=BY (by rw [List.length_set];omega))) I ?_
 rintro _ _ rfl
 refine jD<|A5 K41<|A4 fun _ K42=>?_
 rw [show (v.set (i3) (v.getD (j3) 0#32)).set (j3) (v.getD (i3) 0#32)=Ex v (i3) (j3) from rfl]
 refine wM I I<|A2 (AN (j:=1) I I) I<|wA I I<|A3 K42<|AD<|wM I I<|A2 (Ax (j:=1) I I) I<|wA I I<|AW<|Av (K24 ⟨i3+1,j3 -1,Ex v i3 j3⟩ (⟨by (try dsimp only);omega,Nf (by omega) hij (by omega) hlo3 (Nat.le_of_lt (hJ3 (by omega))),Rj (by omega) hij (by omega) hhi3 (hI3 (by omega)),.step hsv (by omega) (by omega) (by omega) (by omega),by(try dsimp only);rw [D6];exact hvl⟩) (by (try dsimp only);omega))

theorem Mk{ga cap n a b:Nat}{l:List Bv}{p:Nat}(hl:l.length=n)(hn:n<=1000)(hap:a<=p)(hpb:p<b)(hb:b<=n):Ct Tryz.prog 112 [sl (some ga) n cap,.int .i64 ((a:Nat):Int),.int .i64 ((b:Nat):Int),.int .i64 ((p:Nat):Int)] [Aa (some ga) cap 1 42 (eU .u32 (w:=32)) l] (fun g: {q:Nat × List Bv // SwR a b l q.2/\(a<q.1/\q.1<=b)/\ ∀k,a<=k ->k<q.1 ->vA q.2 k<=vA l p} =>.int .i64 ((g.1.1:Nat):Int)) (fun g=> [Aa (some ga) cap 1 42 (eU .u32 (w:=32)) g.1.2]):=by
 refine AY (n:=84) Tryz.func112 I I I fun F w0 Q hret hnorm hp=>?_
 change WC _ _ _ _ _ _ _ (_::F)
 refine A4 fun _ K1=>wA I I<|A3 K1<|A7 fun _ K2=>Am CE (jz [13,15] 16) ?_
 refine jM 0 I I I hp<|jM 1 I I I hp<|jM 2 I I I hp<|jM 3 I I I hp<|jM 4 I I I hp<|jM 5 I I I hp<|jP 6 I (AT (p) I I B2 BI (hj:=by omega)) I hp ?_
 refine jT 7 I (AU (i:=p) (j:=0) I BX (hl:=BY (l:=l) (by omega))) I hp AQ ?_
 refine jM 8 I I I hp<|jM 9 I I I hp<|jP 10 I (AT (a) I I B2 BI (hj:=by omega)) I hp ?_
 refine jT 11 I (AU (i:=a) (j:=0) I BX (hl:=BY (l:=l) (by omega))) I hp AQ ?_
 refine jP 12 I (AT (a) I I B2 BI (hj:=by omega)) I hp ?_
 refine jO 13<|EN I (Aq (l.getD (p) 0#32) I I BI (i:=a) (j:=0) (hl:=BY (l:=l) (by omega))) I ?_
 rintro _ _ rfl
 refine jP 14 I (AT (p) I I B2 BI (hj:=by omega)) I hp ?_
 refine jO 15<|EN I (Aq (l.getD (a) 0#32) I I BI (i:=p) (j:=0) (hl:=BY (by rw [List.length_set];omega))) I ?_
 rintro _ _ rfl
 refine jD<|A5 K2<|A4 fun _ K3=>?_
 rw [show (l.set (a) (l.getD (p) 0#32)).set (p) (l.getD (a) 0#32)=Ex l (a) (p) from rfl]
 refine wM rfl rfl<|A2 (AN (j:=1) rfl rfl) rfl<|wM rfl rfl<|A2 (Ax (j:=1) rfl rfl) rfl<|wA rfl rfl<|wA rfl rfl<|A3 K3<|A7 fun _ K4=>AG<|Ak (σ:=Nat × Nat × (List Bv)) (fun ⟨i2,j2,v⟩=> [(9,.int .i64 ((i2:Nat):Int)),(10,.int .i64 ((j2:Nat):Int))]) (fun ⟨i2,j2,v⟩=> [Aa (some ga) cap 1 42 (eU .u32 (w:=32)) v]) (fun ⟨i2,j2,v⟩=>(a+1<=i2/\i2<=j2+1/\j2<b)/\U5 v a i2/\vA v a=vA l p/\SwR a b l v/\v.length=n) (fun ⟨i2,j2,v⟩=>j2) ⟨a+1,b -1,Ex l a p⟩ [0,1,8,83] Cw D8 ?_ ?_ Sub.refl ?_
 ·exact⟨by omega,fun k h1 h2=>by omega,Z6 (by omega) (by omega),.step .refl (by omega) (by omega) hap hpb,by rw [D6];exact hl⟩
 ·(try dsimp only);exact(Wk.cons Ch (Wk.cons Ch Wk.nil))
 rintro⟨i2,j2,v⟩ ⟨hi2,hlo2,hva,hsv,hvl⟩ K5 K5
 simp only [List.cons_append,List.nil_append]
 refine AG<|A7 fun _ K6=>Cx (B0:= []) (σ:=Nat) (fun i3=> [(9,.int .i64 ((i3:Nat):Int))]) (fun i3=> []) (fun i3=>(a+1<=i3/\i3<=j2+1)/\U5 v a i3/\(i3<=j2 ->vA v a<vA v i3)) [0,1,8,10,46,47,48,49,50,51,52,53,54,55,56,57,58,59,60,61,62,63,64,65,66,67,68,69,70,71,72,73,74,75,76,77,78,79,80,81,82,83] Cw D8 ?_ ?_
 ·intro K7
  refine AG<|Ak (σ:=Nat) (fun i3=> [(9,.int .i64 ((i3:Nat):Int))]) (fun i3=> []) (fun i3=>(a+1<=i3/\i3<=j2+1)/\U5 v a i3) (fun i3=>j2+1 -i3) (i2) [0,1,8,10,46,47,48,49,50,51,52,53,54,55,56,57,58,59,60,61,62,63,64,65,66,67,68,69,70,71,72,73,74,75,76,77,78,79,80,81,82,83] Cw D8 ?_ ?_ Sub.refl ?_
  ·exact⟨by omega,hlo2⟩
  ·(try dsimp only);exact(Wk.cons Ch Wk.nil)
  rintro i3 ⟨hi3,hlo3⟩ K8 K8
  simp only [List.cons_append,List.nil_append]
  refine A7 fun _ K9=>A7 fun _ K10=>BC CE [Aa (some ga) cap 1 42 (eU .u32 (w:=32)) v] (fun i=>([2,2,2,2,2,2,2,2,2,2,2,2,1,2,2]:List Nat).getD i 0) ?_
  refine jM 0 I I I hp<|jM 1 I I I hp<|jP 2 I (D5 I I) I hp ?_
  refine jM 3 I I I hp<|Be 32 I (fun hg11=>?_) (fun hg11=>?_)
  ·try simp only [dz] at hg11
   refine jM 4 I I I hp<|jM 5 I I I hp<|jP 6 I (AT (a) I I B2 BI (hj:=by omega)) I hp ?_
   refine jT 7 I (AU (i:=a) (j:=0) I BX (hl:=BY (l:=v) (by omega))) I hp AQ ?_
   refine jM 8 I I I hp<|jM 9 I I I hp<|jP 10 I (AT (i3) I I B2 BI (hj:=by omega)) I hp ?_
   refine jT 11 I (AU (i:=i3) (j:=0) I BX (hl:=BY (l:=v) (by omega))) I hp AQ ?_
   refine jO 12<|B7 I (AE FC I (hs:=D3 (x:=v.getD (a) 0#32) (y:=v.getD (i3) 0#32))) I I I I ?_
   rintro _ _ ⟨⟨⟩,rfl,hA⟩
   simp only [ca] at hA
   subst hA
   refine⟨(fun _=>AQ),?_⟩
   refine jP 13 I (Au I) I hp<|jP 14 I (AC I I) I hp<|jD<|A5 K10<|AH I (fun hc0=>?_) (fun hc0=>?_)
   ·try simp only [dz] at hc0
    have hli:vA v i3<=vA v a:=by unfold vA at *;omega
    refine AA<|A5 K9<|AG<|AD<|wM I I<|A2 (AN (j:=1) I I) I<|wA I I<|AW<|Av (K8 (i3+1) (⟨by omega,Ng hlo3 hli⟩) (by omega))
   try simp only [dz] at hc0
   have hI3:i3<=j2 ->vA v a<vA v i3:=by unfold vA at *;omega
   refine Aj<|Av (K7 (i3) (⟨hi3,hlo3,hI3⟩))
  try simp only [dz] at hg11
  refine jK 4 I I hp<|jK 5 I I hp<|jK 6 I I hp<|jK 7 I I hp<|jK 8 I I hp<|jK 9 I I hp<|jK 10 I I hp<|jK 11 I I hp<|jO 12<|CN I I I I (fun _=>AQ) ?_
  refine jK 13 I I hp<|jP 14 I (A8 I I) I hp<|jD<|A5 K10<|AM I ?_
  have hI3:i3<=j2 ->vA v a<vA v i3:=by unfold vA at *;omega
  refine Aj<|Av (K7 (i3) (⟨hi3,hlo3,hI3⟩))
 rintro i3 ⟨hi3,hlo3,hI3⟩
 simp only [List.cons_append,List.nil_append]
 refine A5 K6<|A7 fun _ K12=>Cx (B0:= []) (σ:=Nat) (fun j3=> [(10,.int .i64 ((j3:Nat):Int))]) (fun j3=> []) (fun j3=>(i3<=j3+1/\j3<=j2)/\(i3<=j3 ->vA v j3<=vA v a)) [0,1,8,9,29,30,31,32,33,34,35,36,37,38,39,40,41,42,43,44,45,62,63,64,65,66,67,68,69,70,71,72,73,74,75,76,77,78,79,80,81,82,83] Cw D8 ?_ ?_
 ·intro K13
  refine AG<|Ak (σ:=Nat) (fun j3=> [(10,.int .i64 ((j3:Nat):Int))]) (fun j3=> []) (fun j3=>i3<=j3+1/\j3<=j2) (fun j3=>j3) (j2) [0,1,8,9,29,30,31,32,33,34,35,36,37,38,39,40,41,42,43,44,45,62,63,64,65,66,67,68,69,70,71,72,73,74,75,76,77,78,79,80,81,82,83] Cw D8 ?_ ?_ Sub.refl ?_
  ·exact(by omega)
  ·(try dsimp only);exact(Wk.cons Ch Wk.nil)
  rintro j3 hj3 K14 K14
  simp only [List.cons_append,List.nil_append]
  refine A7 fun _ K15=>A7 fun _ K16=>BC CE [Aa (some ga) cap 1 42 (eU .u32 (w:=32)) v] (fun i=>([2,2,2,2,2,2,2,2,2,2,2,2,1,2]:List Nat).getD i 0) ?_
  refine jM 0 I I I hp<|jM 1 I I I hp<|jP 2 I (D5 I I) I hp ?_
  refine jM 3 I I I hp<|Be 49 I (fun hg17=>?_) (fun hg17=>?_)
  ·try simp only [dz] at hg17
   refine jM 4 I I I hp<|jM 5 I I I hp<|jP 6 I (AT (a) I I B2 BI (hj:=by omega)) I hp ?_
   refine jT 7 I (AU (i:=a) (j:=0) I BX (hl:=BY (l:=v) (by omega))) I hp AQ ?_
   refine jM 8 I I I hp<|jM 9 I I I hp<|jP 10 I (AT (j3) I I B2 BI (hj:=by omega)) I hp ?_
   refine jT 11 I (AU (i:=j3) (j:=0) I BX (hl:=BY (l:=v) (by omega))) I hp AQ ?_
   refine jO 12<|B7 I (AE FC I (hs:=D3 (x:=v.getD (a) 0#32) (y:=v.getD (j3) 0#32))) I I I I ?_
   rintro _ _ ⟨⟨⟩,rfl,hA⟩
   simp only [ca] at hA
   subst hA
   refine⟨(fun _=>AQ),?_⟩
   refine jP 13 I (AC I I) I hp<|jD<|A5 K16<|AH I (fun hc1=>?_) (fun hc1=>?_)
   ·try simp only [dz] at hc1
    refine AA<|A5 K15<|AG<|AD<|wM I I<|A2 (Ax (j:=1) I I) I<|wA I I<|AW<|Av (K14 (j3 -1) (by omega) (by omega))
   try simp only [dz] at hc1
   have hJ3:i3<=j3 ->vA v j3<=vA v a:=by unfold vA at *;omega
   refine Aj<|Av (K13 (j3) (⟨hj3,hJ3⟩))
  try simp only [dz] at hg17
  refine jK 4 I I hp<|jK 5 I I hp<|jK 6 I I hp<|jK 7 I I hp<|jK 8 I I hp<|jK 9 I I hp<|jK 10 I I hp<|jK 11 I I hp<|jO 12<|CN I I I I (fun _=>AQ) ?_
  refine jP 13 I (A8 I I) I hp<|jD<|A5 K16<|AM I ?_
  have hJ3:i3<=j3 ->vA v j3<=vA v a:=by unfold vA at *;omega
  refine Aj<|Av (K13 (j3) (⟨hj3,hJ3⟩))
 rintro j3 ⟨hj3,hJ3⟩
 simp only [List.cons_append,List.nil_append]
 refine A5 K12<|A7 fun _ K18=>A4 fun _ K19=>wM I I<|wM I I<|A2 (Bz I I) I ?_
 refine A3 K19<|AH I (fun hc2=>?_) (fun hc2=>?_)
 ·try simp only [dz] at hc2
  refine Aj<|A5 K4<|A4 fun _ K20=>wM I I<|wA I I<|A3 K20<|AK ?_
  exact hret.go ⟨(i3,v),hsv,by(try dsimp only);omega,bM hlo3 (Nat.le_of_eq hva)⟩ (BR rfl rfl)
 try simp only [dz] at hc2
 have hij:i3<j3:=Qi (by omega) (hJ3 (by omega)) (hI3 (by omega))
 refine AA<|A5 K18<|A7 fun _ K21=>Am CE (jz [13,15] 16) ?_
 refine jM 0 I I I hp<|jM 1 I I I hp<|jM 2 I I I hp<|jM 3 I I I hp<|jM 4 I I I hp<|jM 5 I I I hp<|jP 6 I (AT (j3) I I B2 BI (hj:=by omega)) I hp ?_
 refine jT 7 I (AU (i:=j3) (j:=0) I BX (hl:=BY (l:=v) (by omega))) I hp AQ ?_
 refine jM 8 I I I hp<|jM 9 I I I hp<|jP 10 I (AT (i3) I I B2 BI (hj:=by omega)) I hp ?_
 refine jT 11 I (AU (i:=i3) (j:=0) I BX (hl:=BY (l:=v) (by omega))) I hp AQ ?_
 refine jP 12 I (AT (i3) I I B2 BI (hj:=by omega)) I hp ?_
 refine jO 13<|EN I (Aq (v.getD (j3) 0#32) I I BI (i:=i3) (j:=0) (hl:=BY (l:=v) (by omega))) I ?_
 rintro _ _ rfl
 refine jP 14 I (AT (j3) I I B2 BI (hj:=by omega)) I hp ?_
 refine jO 15<|EN I (Aq (v.getD (i3) 0#32) I I BI (i:=j3) (j:=0) (hl:=BY (by rw [List.length_set];omega))) I ?_
 rintro _ _ rfl
 refine jD<|A5 K21<|A4 fun _ K22=>?_
 rw [show (v.set (i3) (v.getD (j3) 0#32)).set (j3) (v.getD (i3) 0#32)=Ex v (i3) (j3) from rfl]
 refine wM I I<|A2 (AN (j:=1) I I) I<|wA I I<|A3 K22<|AD<|wM I I<|A2 (Ax (j:=1) I I) I<|wA I I<|AW<|Av (K5 ⟨i3+1,j3 -1,Ex v i3 j3⟩ (⟨by (try dsimp only);omega,Nf (by omega) hij (by omega) hlo3 (hJ3 (by omega)),by(try dsimp only);rw [Fx (by omega) (by omega),if_neg (by omega),if_neg (by omega)];exact hva,.step hsv (by omega) (by omega) (by omega) (by omega),by(try dsimp only);rw [D6];exact hvl⟩) (by (try dsimp only);omega))
end Go.Proofs.YtoakfknnaiapiaaGreat
