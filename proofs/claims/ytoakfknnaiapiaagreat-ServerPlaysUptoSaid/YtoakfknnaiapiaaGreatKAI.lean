/-
  Contracts of functions that the claim reaches, or the logic and the plain laws that they rest on, or the row over them. (Conditions: none beyond the statement.)
-/
import Derived.Test.YtoakfknnaiapiaaGreatKAH
set_option linter.all false
namespace Go.Proofs.YtoakfknnaiapiaaGreat
open Go.RowKit Go.SL Go.ShM Go.SvM
set_option maxHeartbeats 1000000
set_option maxRecDepth 20000
set_option linter.all false
theorem g3:DF Tryz.prog 117=true:=by kernel_rfl
theorem g0:DF Tryz.prog 118=true:=by kernel_rfl
theorem XR:Zo Tryz.prog 3 173=some .u64:=by kernel_rfl
theorem XS:Zo Tryz.prog 146 3=some .i64:=by kernel_rfl
theorem TC:sz Tryz.prog 173=some 1:=by kernel_rfl
theorem MX:tk Tryz.prog 173=some none:=by kernel_rfl
theorem ei:zr Tryz.prog 173=some [.int .u64 0]:=by kernel_rfl
theorem ch{n:Nat}(h1:1<=n)(h2:n<=1000):n<=((1#64 <<<Go.Lib.bitLen (n:Int).toNat):BitVec 64).toNat/\((1#64 <<<Go.Lib.bitLen (n:Int).toNat):BitVec 64).toNat<=2*n:=by
 have h: ∀q:Fin 1001,1<=q.val ->q.val<=((1#64 <<<Go.Lib.bitLen q.val):BitVec 64).toNat/\((1#64 <<<Go.Lib.bitLen q.val):BitVec 64).toNat<=2*q.val:=by decide+kernel
 exact h ⟨n,by omega⟩ h1
theorem eE{y q:BitVec 64}{n:Nat}(h1:1<=n)(hq:n<=q.toNat)(h2:q.toNat<=2*n)(hn:n<=1000):(y &&& (q -1#64)).toNat<2*n:=by
 rw [BitVec.toNat_and]
 have:=Nat.and_le_right (n:=y.toNat) (m:=(q -1#64).toNat)
 have e:(q -1#64).toNat=q.toNat -1:=by rw [BitVec.toNat_sub_of_le (by rw [BitVec.le_def];show 1<=q.toNat;omega)];rfl
 omega
theorem cM{v:List Bv}{a b j:Nat}(h:LB v a b)(h1:a<=j)(h2:j<b)(h3:1<=j)(h4:vA v j<vA v (j -1)):a<j:=by
 rcases h with h|h
 ·omega
 ·rcases Nat.lt_or_ge a j with q|q
  ·exact q
  ·have e:j=a:=by omega
   subst e
   have:=h j (Nat.le_refl _) h2
   omega

theorem ZJ{ga cap n a b:Nat}{l:List Bv}(hl:l.length=n)(hn:n<=1000)(hab:a<b)(hb:b<=n)(hlb:LB l a b):Ct Tryz.prog 110 [sl (some ga) n cap,.int .i64 ((a:Nat):Int),.int .i64 ((b:Nat):Int)] [Aa (some ga) cap 1 42 (eU .u32 (w:=32)) l] (fun g: {q:Bool × List Bv // SwR a b l q.2/\(q.1=true ->G1 q.2 a b)} =>.bool g.1.1) (fun g=> [Aa (some ga) cap 1 42 (eU .u32 (w:=32)) g.1.2]):=by
 refine AY (n:=133) Tryz.func110 I I I fun F w0 Q hret hnorm hp=>?_
 change WC _ _ _ _ _ _ _ (_::F)
 refine A4 fun _ K1=>wA rfl rfl<|A3 K1<|A4 fun _ K2=>wM rfl rfl<|A2 (AN (j:=1) rfl rfl) rfl<|wA rfl rfl<|A3 K2<|A7 fun _ K3=>A4 fun _ K4=>wA rfl rfl<|A3 K4<|AG<|Ak (σ:=Nat × Nat × (List Bv)) (fun ⟨i,q,w⟩=> [(7,.int .i64 ((i:Nat):Int)),(8,.int .i64 ((q:Nat):Int))]) (fun ⟨i,q,w⟩=> [Aa (some ga) cap 1 42 (eU .u32 (w:=32)) w]) (fun ⟨i,q,w⟩=>((a+1<=i/\i<=b)/\q<=5)/\SwR a b l w/\G1 w a i/\w.length=n) (fun ⟨i,q,w⟩=>5 -q) ⟨a+1,0,l⟩ [0,1,2] Cw D8 ?_ ?_ Sub.refl ?_
 ·exact⟨by omega,.refl,fun p q h0 h1 h2=>by omega,hl⟩
 ·(try dsimp only);exact(Wk.cons Ch (Wk.cons Ch Wk.nil))
 rintro⟨i,q,w⟩ ⟨hi,hsw,hod,hwl⟩ K5 K5
 simp only [List.cons_append,List.nil_append]
 refine A7 fun _ K6=>A4 fun _ K7=>wM I I<|A2 (An (j:=5) I I) I<|A3 K7<|AH I (fun hc0=>?_) (fun hc0=>?_)
 ·try simp only [dz] at hc0
  refine AA<|A5 K6<|A7 fun _ K8=>AG<|A7 fun _ K9=>AG<|Ak (σ:=Nat) (fun i1=> [(7,.int .i64 ((i1:Nat):Int))]) (fun i1=> []) (fun i1=>(a+1<=i1/\i1<=b)/\G1 w a i1) (fun i1=>b -i1) (i) [0,1,2,6,8,9,10,13,14,15,16,35,36,37,38,39,40,41,42,43,44,45,46,47,48,49,50,51,52,53,54,55,56,57,58,59,60,61,62,63,64,65,66,67,68,69,70,71,72,73,74,75,76,77,78,79,80,81,82,83,84,85,86,87,88,89,90,91,92,93,94,95,96,97,98,99,100,101,102,103,104,105,106,107,108,109,110,111,112,113,114,115,116,117,118,119,120,121,122,123,124,125,126,127,128,129,130,131,132] Cw D8 ?_ ?_ Sub.refl ?_
  ·exact⟨by omega,hod⟩
  ·(try dsimp only);exact(Wk.cons Ch Wk.nil)
  rintro i1 ⟨hi1,hod1⟩ K10 K10
  simp only [List.cons_append,List.nil_append]
  refine A7 fun _ K11=>A7 fun _ K12=>BC CE [Aa (some ga) cap 1 42 (eU .u32 (w:=32)) w] (fun i=>([2,2,2,2,2,2,2,2,2,2,2,2,2,1,2,2]:List Nat).getD i 0) ?_
  refine jM 0 I I I hp<|jM 1 I I I hp<|jP 2 I (An I I) I hp<|jM 3 I I I hp<|Be 20 I (fun hg13=>?_) (fun hg13=>?_)
  ·try simp only [dz] at hg13
   refine jM 4 I I I hp<|jM 5 I I I hp<|jP 6 I (AT (i1) I I B2 BI (hj:=by omega)) I hp ?_
   refine jT 7 I (AU (i:=i1) (j:=0) I BX (hl:=BY (l:=w) (by omega))) I hp AQ ?_
   refine jM 8 I I I hp<|jM 9 I I I hp<|jP 10 I (Ax (j:=1) I I) I hp<|jP 11 I (AT (i1 -1) I I B2 BI (hj:=by omega)) I hp ?_
   refine jT 12 I (AU (i:=i1 -1) (j:=0) I BX (hl:=BY (l:=w) (by omega))) I hp AQ ?_
   refine jO 13<|B7 I (AE FC I (hs:=D3 (x:=w.getD (i1) 0#32) (y:=w.getD (i1 -1) 0#32))) I I I I ?_
   rintro _ _ ⟨⟨⟩,rfl,hA⟩
   simp only [ca] at hA
   subst hA
   refine⟨(fun _=>AQ),?_⟩
   refine jP 14 I (Au I) I hp<|jP 15 I (AC I I) I hp<|jD<|A5 K12<|AH I (fun hc1=>?_) (fun hc1=>?_)
   ·try simp only [dz] at hc1
    have hle1:a<i1 ->vA w (i1 -1)<=vA w i1:=by unfold vA at *;omega
    refine AA<|A5 K11<|AG<|AD<|wM I I<|A2 (AN (j:=1) I I) I<|wA I I<|AW<|Av (K10 (i1+1) (⟨by omega,Up hod1 hle1⟩) (by omega))
   try simp only [dz] at hc1
   have hlt1:i1<b ->vA w i1<vA w (i1 -1):=by unfold vA at *;omega
   refine Aj<|A5 K9<|A7 fun _ K14=>A4 fun _ K15=>wM I I<|wM I I<|A2 (Ab I I) I<|A3 K15<|AH I (fun hc2=>?_) (fun hc2=>?_)
   ·try simp only [dz] at hc2
    refine A4 fun _ K16=>wA I I<|A3 K16<|AK ?_
    exact hret.go ⟨(true,w),hsw,fun _ p q h0 h1 h2=>hod1 p q h0 h1 (by omega)⟩ (BR rfl rfl)
   try simp only [dz] at hc2
   refine AA<|A5 K14<|A7 fun _ K17=>A4 fun _ K18=>wM I I<|wM I I<|A2 (Ax I I) I<|A2 (An (j:=50) I I) I<|A3 K18<|AH I (fun hc3=>?_) (fun hc3=>?_)
   ·try simp only [dz] at hc3
    refine A4 fun _ K19=>wA I I<|A3 K19<|AK ?_
    exact hret.go ⟨(false,w),hsw,fun h=>by cases h⟩ (BR rfl rfl)
   try simp only [dz] at hc3
   have hib:i1<b:=by omega
   have hltw:=hlt1 hib
   refine AA<|A5 K17<|A7 fun _ K20=>Am CE (jz [15,17] 18) ?_
   refine jM 0 I I I hp<|jM 1 I I I hp<|jM 2 I I I hp<|jM 3 I I I hp<|jP 4 I (Ax (j:=1) I I) I hp<|jM 5 I I I hp<|jM 6 I I I hp<|jP 7 I (Ax (j:=1) I I) I hp<|jP 8 I (AT (i1 -1) I I B2 BI (hj:=by omega)) I hp ?_
   refine jT 9 I (AU (i:=i1 -1) (j:=0) I BX (hl:=BY (l:=w) (by omega))) I hp AQ ?_
   refine jM 10 I I I hp<|jM 11 I I I hp<|jP 12 I (AT (i1) I I B2 BI (hj:=by omega)) I hp ?_
   refine jT 13 I (AU (i:=i1) (j:=0) I BX (hl:=BY (l:=w) (by omega))) I hp AQ ?_
   refine jP 14 I (AT (i1) I I B2 BI (hj:=by omega)) I hp ?_
   refine jO 15<|EN I (Aq (w.getD (i1 -1) 0#32) I I BI (i:=i1) (j:=0) (hl:=BY (l:=w) (by omega))) I ?_
   rintro _ _ rfl
   refine jP 16 I (AT (i1 -1) I I B2 BI (hj:=by omega)) I hp ?_
   refine jO 17<|EN I (Aq (w.getD (i1) 0#32) I I BI (i:=i1 -1) (j:=0) (hl:=BY (by rw [List.length_set];omega))) I ?_
   rintro _ _ rfl
   refine jD<|A5 K20<|A7 fun _ K21=>A4 fun _ K22=>?_
   rw [show (w.set (i1) (w.getD (i1 -1) 0#32)).set (i1 -1) (w.getD (i1) 0#32)=Ex w (i1) (i1 -1) from rfl]
   refine wM I I<|wM I I<|A2 (Ax I I) I<|A2 (Bl (j:=2) I I) I ?_
   refine A3 K22<|Cx (B0:= [Aa (some ga) cap 1 42 (eU .u32 (w:=32)) (Ex w i1 (i1 -1))]) (σ:=(List Bv)) (fun v=> []) (fun v=> [Aa (some ga) cap 1 42 (eU .u32 (w:=32)) v]) (fun v=>SwR a b l v/\G1 v a (i1+1)/\v.length=n) [0,1,2,6,7,8,10,13,14,15,16,17,18,19,20,21,22,23,24,25,26,27,28,29,30,31,32,33,34,35,36,37,38,39,40,41,42,43,44,45,46,47,48,49,50,51,52,53,54,55,56,57,58,59,60,61,95,96,97,98,99,100,101,102,103,104,105,106,107,108,109,110,111,112,113,114,115,116,117,118,119,120,121,122,123,124,125,126,127,128,129,130,131,132] Cw D8 ?_ ?_
   ·intro K23
    refine AH I (fun hc4=>?_) (fun hc4=>?_)
    ·try simp only [dz] at hc4
     refine A4 fun _ K24=>wM rfl rfl<|A2 (Ax (j:=1) rfl rfl) rfl<|wA rfl rfl<|A3 K24<|AG<|Ak (σ:=Nat × (List Bv)) (fun ⟨j,v2⟩=> [(9,.int .i64 ((j:Nat):Int))]) (fun ⟨j,v2⟩=> [Aa (some ga) cap 1 42 (eU .u32 (w:=32)) v2]) (fun ⟨j,v2⟩=>(a<=j/\j<=i1 -1)/\SwR a b l v2/\SK v2 a (i1+1) j/\v2.length=n) (fun ⟨j,v2⟩=>j) ⟨i1 -1,Ex w i1 (i1 -1)⟩ [0,1,2,6,7,8,10,13,14,15,16,17,18,19,20,21,22,23,24,25,26,27,28,29,30,31,32,33,34,35,36,37,38,39,40,41,42,43,44,45,46,47,48,49,50,51,52,53,54,55,56,57,58,59,60,61,62,63,95,96,97,98,99,100,101,102,103,104,105,106,107,108,109,110,111,112,113,114,115,116,117,118,119,120,121,122,123,124,125,126,127,128,129,130,131,132] Cw D8 ?_ ?_ Sub.refl ?_
     ·exact⟨by omega,.step hsw (by omega) (by omega) (by omega) (by omega),Fj (by omega) (by omega) (by omega) hltw (Jx hod1),by rw [D6];exact hwl⟩
     ·(try dsimp only);exact(Wk.cons Ch Wk.nil)
     rintro⟨j,v2⟩ ⟨hj,hsw2,hof,hv2l⟩ K25 K25
     simp only [List.cons_append,List.nil_append]
     refine A7 fun _ K26=>A4 fun _ K27=>wM I I<|A2 (Bl (j:=1) I I) I ?_
     refine A3 K27<|AH I (fun hc5=>?_) (fun hc5=>?_)
     ·try simp only [dz] at hc5
      refine AA<|A5 K26<|A7 fun _ K28=>AG<|A7 fun _ K29=>A7 fun _ K30=>BC CE [Aa (some ga) cap 1 42 (eU .u32 (w:=32)) v2] (fun i=>([2,2,2,2,2,2,2,2,2,1,2]:List Nat).getD i 0) ?_
      refine jM 0 I I I hp<|jM 1 I I I hp<|jP 2 I (AT (j) I I B2 BI (hj:=by omega)) I hp ?_
      refine jT 3 I (AU (i:=j) (j:=0) I BX (hl:=BY (l:=v2) (by omega))) I hp AQ ?_
      refine jM 4 I I I hp<|jM 5 I I I hp<|jP 6 I (Ax (j:=1) I I) I hp<|jP 7 I (AT (j -1) I I B2 BI (hj:=by omega)) I hp ?_
      refine jT 8 I (AU (i:=j -1) (j:=0) I BX (hl:=BY (l:=v2) (by omega))) I hp AQ ?_
      refine jO 9<|B7 I (AE FC I (hs:=D3 (x:=v2.getD (j) 0#32) (y:=v2.getD (j -1) 0#32))) I I I I ?_
      rintro _ _ ⟨⟨⟩,rfl,hA⟩
      simp only [ca] at hA
      subst hA
      refine⟨(fun _=>AQ),?_⟩
      refine jP 10 I (Au I) I hp<|jD<|A5 K30<|AH I (fun hc6=>?_) (fun hc6=>?_)
      ·try simp only [dz] at hc6
       have hend:j<=a\/vA v2 (j -1)<=vA v2 j:=.inr (by unfold vA at *;omega)
       refine Aj<|Av (K23 (v2) (⟨hsw2,G2 hend hof,hv2l⟩))
      try simp only [dz] at hc6
      have hlt2:vA v2 j<vA v2 (j -1):=by unfold vA at *;omega
      have haj:=cM (hlb.sw hsw2 (by omega)) (by omega) (by omega) (by omega) hlt2
      refine AA<|A5 K29<|Am CE (jz [15,17] 18) ?_
      refine jM 0 I I I hp<|jM 1 I I I hp<|jM 2 I I I hp<|jM 3 I I I hp<|jP 4 I (Ax (j:=1) I I) I hp<|jM 5 I I I hp<|jM 6 I I I hp<|jP 7 I (Ax (j:=1) I I) I hp<|jP 8 I (AT (j -1) I I B2 BI (hj:=by omega)) I hp ?_
      refine jT 9 I (AU (i:=j -1) (j:=0) I BX (hl:=BY (l:=v2) (by omega))) I hp AQ ?_
      refine jM 10 I I I hp<|jM 11 I I I hp<|jP 12 I (AT (j) I I B2 BI (hj:=by omega)) I hp ?_
      refine jT 13 I (AU (i:=j) (j:=0) I BX (hl:=BY (l:=v2) (by omega))) I hp AQ ?_
      refine jP 14 I (AT (j) I I B2 BI (hj:=by omega)) I hp ?_
      refine jO 15<|EN I (Aq (v2.getD (j -1) 0#32) I I BI (i:=j) (j:=0) (hl:=BY (l:=v2) (by omega))) I ?_
      rintro _ _ rfl
      refine jP 16 I (AT (j -1) I I B2 BI (hj:=by omega)) I hp ?_
      refine jO 17<|EN I (Aq (v2.getD (j) 0#32) I I BI (i:=j -1) (j:=0) (hl:=BY (by rw [List.length_set];omega))) I ?_
      rintro _ _ rfl
      refine jD<|A5 K28<|AD ?_
      rw [show (v2.set (j) (v2.getD (j -1) 0#32)).set (j -1) (v2.getD (j) 0#32)=Ex v2 (j) (j -1) from rfl]
      refine wM I I<|A2 (Ax (j:=1) I I) I<|wA I I<|AW<|Av (K25 ⟨j -1,Ex v2 j (j -1)⟩ (⟨by (try dsimp only);omega,.step hsw2 (by omega) (by omega) (by omega) (by omega),Fj (by omega) haj (by omega) hlt2 hof,by(try dsimp only);rw [D6];exact hv2l⟩) (by (try dsimp only);omega))
     try simp only [dz] at hc5
     have hend:j<=a\/vA v2 (j -1)<=vA v2 j:=.inl (by omega)
     refine Aj<|Av (K23 (v2) (⟨hsw2,G2 hend hof,hv2l⟩))
    try simp only [dz] at hc4
    refine AA<|Av (K23 (Ex w i1 (i1 -1)) (⟨.step hsw (by omega) (by omega) (by omega) (by omega),G2 (.inl (by omega)) (Fj (by omega) (by omega) (by omega) hltw (Jx hod1)),by(try dsimp only);rw [D6];exact hwl⟩))
   rintro v ⟨hsv,hov,hvl⟩
   simp only [List.cons_append,List.nil_append]
   refine A5 K21<|A4 fun _ K31=>wM I I<|wM I I<|A2 (Ax I I) I<|A2 (Bl (j:=2) I I) I ?_
   refine A3 K31<|Cx (B0:= [Aa (some ga) cap 1 42 (eU .u32 (w:=32)) v]) (σ:=(List Bv)) (fun u=> []) (fun u=> [Aa (some ga) cap 1 42 (eU .u32 (w:=32)) u]) (fun u=>SwR a b l u/\G1 u a i1/\u.length=n) [0,1,2,6,7,8,9,13,14,15,16,17,18,19,20,21,22,23,24,25,26,27,28,29,30,31,32,33,34,35,36,37,38,39,40,41,42,43,44,45,46,47,48,49,50,51,52,53,54,55,56,57,58,59,60,61,62,63,64,65,66,67,68,69,70,71,72,73,74,75,76,77,78,79,80,81,82,83,84,85,86,87,88,89,90,91,92,93,94,95,96,97,98] Cw D8 ?_ ?_
   ·intro K32
    refine AH I (fun hc7=>?_) (fun hc7=>?_)
    ·try simp only [dz] at hc7
     refine A4 fun _ K33=>wM rfl rfl<|A2 (AN (j:=1) rfl rfl) rfl<|wA rfl rfl<|A3 K33<|AG<|Ak (σ:=Nat × (List Bv)) (fun ⟨j3,u3⟩=> [(10,.int .i64 ((j3:Nat):Int))]) (fun ⟨j3,u3⟩=> [Aa (some ga) cap 1 42 (eU .u32 (w:=32)) u3]) (fun ⟨j3,u3⟩=>(i1+1<=j3/\j3<=b)/\SwR a b l u3/\G1 u3 a i1/\u3.length=n) (fun ⟨j3,u3⟩=>b -j3) ⟨i1+1,v⟩ [0,1,2,6,7,8,9,13,14,15,16,17,18,19,20,21,22,23,24,25,26,27,28,29,30,31,32,33,34,35,36,37,38,39,40,41,42,43,44,45,46,47,48,49,50,51,52,53,54,55,56,57,58,59,60,61,62,63,64,65,66,67,68,69,70,71,72,73,74,75,76,77,78,79,80,81,82,83,84,85,86,87,88,89,90,91,92,93,94,95,96,97,98,99,100] Cw D8 ?_ ?_ Sub.refl ?_
     ·exact⟨by omega,hsv,fun p q h0 h1 h2=>hov p q h0 h1 (by omega),hvl⟩
     ·(try dsimp only);exact(Wk.cons Ch Wk.nil)
     rintro⟨j3,u3⟩ ⟨hj3,hs3,ho3,hu3l⟩ K34 K34
     simp only [List.cons_append,List.nil_append]
     refine A7 fun _ K35=>A4 fun _ K36=>wM I I<|wM I I<|A2 (An I I) I<|A3 K36<|AH I (fun hc8=>?_) (fun hc8=>?_)
     ·try simp only [dz] at hc8
      refine AA<|A5 K35<|A7 fun _ K37=>AG<|A7 fun _ K38=>A7 fun _ K39=>BC CE [Aa (some ga) cap 1 42 (eU .u32 (w:=32)) u3] (fun i=>([2,2,2,2,2,2,2,2,2,1,2]:List Nat).getD i 0) ?_
      refine jM 0 I I I hp<|jM 1 I I I hp<|jP 2 I (AT (j3) I I B2 BI (hj:=by omega)) I hp ?_
      refine jT 3 I (AU (i:=j3) (j:=0) I BX (hl:=BY (l:=u3) (by omega))) I hp AQ ?_
      refine jM 4 I I I hp<|jM 5 I I I hp<|jP 6 I (Ax (j:=1) I I) I hp<|jP 7 I (AT (j3 -1) I I B2 BI (hj:=by omega)) I hp ?_
      refine jT 8 I (AU (i:=j3 -1) (j:=0) I BX (hl:=BY (l:=u3) (by omega))) I hp AQ ?_
      refine jO 9<|B7 I (AE FC I (hs:=D3 (x:=u3.getD (j3) 0#32) (y:=u3.getD (j3 -1) 0#32))) I I I I ?_
      rintro _ _ ⟨⟨⟩,rfl,hA⟩
      simp only [ca] at hA
      subst hA
      refine⟨(fun _=>AQ),?_⟩
      refine jP 10 I (Au I) I hp<|jD<|A5 K39<|AH I (fun hc9=>?_) (fun hc9=>?_)
      ·try simp only [dz] at hc9
       refine Aj<|Av (K32 (u3) (⟨hs3,ho3,hu3l⟩))
      try simp only [dz] at hc9
      refine AA<|A5 K38<|Am CE (jz [15,17] 18) ?_
      refine jM 0 I I I hp<|jM 1 I I I hp<|jM 2 I I I hp<|jM 3 I I I hp<|jP 4 I (Ax (j:=1) I I) I hp<|jM 5 I I I hp<|jM 6 I I I hp<|jP 7 I (Ax (j:=1) I I) I hp<|jP 8 I (AT (j3 -1) I I B2 BI (hj:=by omega)) I hp ?_
      refine jT 9 I (AU (i:=j3 -1) (j:=0) I BX (hl:=BY (l:=u3) (by omega))) I hp AQ ?_
      refine jM 10 I I I hp<|jM 11 I I I hp<|jP 12 I (AT (j3) I I B2 BI (hj:=by omega)) I hp ?_
      refine jT 13 I (AU (i:=j3) (j:=0) I BX (hl:=BY (l:=u3) (by omega))) I hp AQ ?_
      refine jP 14 I (AT (j3) I I B2 BI (hj:=by omega)) I hp ?_
      refine jO 15<|EN I (Aq (u3.getD (j3 -1) 0#32) I I BI (i:=j3) (j:=0) (hl:=BY (l:=u3) (by omega))) I ?_
      rintro _ _ rfl
      refine jP 16 I (AT (j3 -1) I I B2 BI (hj:=by omega)) I hp ?_
      refine jO 17<|EN I (Aq (u3.getD (j3) 0#32) I I BI (i:=j3 -1) (j:=0) (hl:=BY (by rw [List.length_set];omega))) I ?_
      rintro _ _ rfl
      refine jD<|A5 K37<|AD ?_
      rw [show (u3.set (j3) (u3.getD (j3 -1) 0#32)).set (j3 -1) (u3.getD (j3) 0#32)=Ex u3 (j3) (j3 -1) from rfl]
      refine wM I I<|A2 (AN (j:=1) I I) I<|wA I I<|AW<|Av (K34 ⟨j3+1,Ex u3 j3 (j3 -1)⟩ (⟨by (try dsimp only);omega,.step hs3 (by omega) (by omega) (by omega) (by omega),QR ho3 (SwR.step (b:=b) .refl (by omega) (by omega) (by omega) (by omega)) (by omega),by(try dsimp only);rw [D6];exact hu3l⟩) (by (try dsimp only);omega))
     try simp only [dz] at hc8
     refine Aj<|Av (K32 (u3) (⟨hs3,ho3,hu3l⟩))
    try simp only [dz] at hc7
    refine AA<|Av (K32 (v) (⟨hsv,fun p q h0 h1 h2=>hov p q h0 h1 (by omega),hvl⟩))
   rintro u ⟨hsu,hou,hul⟩
   simp only [List.cons_append,List.nil_append]
   refine A5 K8<|AD<|wM I I<|A2 (AN (j:=1) I I) I<|wA I I<|AW<|Av (K5 ⟨i1,q+1,u⟩ (⟨by (try dsimp only);omega,hsu,hou,hul⟩) (by (try dsimp only);omega))
  try simp only [dz] at hg13
  refine jK 4 I I hp<|jK 5 I I hp<|jK 6 I I hp<|jK 7 I I hp<|jK 8 I I hp<|jK 9 I I hp<|jK 10 I I hp<|jK 11 I I hp<|jK 12 I I hp<|jO 13<|CN I I I I (fun _=>AQ) ?_
  refine jK 14 I I hp<|jP 15 I (A8 I I) I hp<|jD<|A5 K12<|AM I ?_
  have hlt1:i1<b ->vA w i1<vA w (i1 -1):=by unfold vA at *;omega
  refine Aj<|A5 K9<|A7 fun _ K40=>A4 fun _ K41=>wM I I<|wM I I<|A2 (Ab I I) I<|A3 K41<|AH I (fun hc2=>?_) (fun hc2=>?_)
  ·try simp only [dz] at hc2
   refine A4 fun _ K42=>wA I I<|A3 K42<|AK ?_
   exact hret.go ⟨(true,w),hsw,fun _ p q h0 h1 h2=>hod1 p q h0 h1 (by omega)⟩ (BR rfl rfl)
  try simp only [dz] at hc2
  refine AA<|A5 K40<|A7 fun _ K43=>A4 fun _ K44=>wM I I<|wM I I<|A2 (Ax I I) I<|A2 (An (j:=50) I I) I<|A3 K44<|AH I (fun hc3=>?_) (fun hc3=>?_)
  ·try simp only [dz] at hc3
   refine A4 fun _ K45=>wA I I<|A3 K45<|AK ?_
   exact hret.go ⟨(false,w),hsw,fun h=>by cases h⟩ (BR rfl rfl)
  try simp only [dz] at hc3
  have hib:i1<b:=by omega
  have hltw:=hlt1 hib
  refine AA<|A5 K43<|A7 fun _ K46=>Am CE (jz [15,17] 18) ?_
  refine jM 0 I I I hp<|jM 1 I I I hp<|jM 2 I I I hp<|jM 3 I I I hp<|jP 4 I (Ax (j:=1) I I) I hp<|jM 5 I I I hp<|jM 6 I I I hp<|jP 7 I (Ax (j:=1) I I) I hp<|jP 8 I (AT (i1 -1) I I B2 BI (hj:=by omega)) I hp ?_
  refine jT 9 I (AU (i:=i1 -1) (j:=0) I BX (hl:=BY (l:=w) (by omega))) I hp AQ ?_
  refine jM 10 I I I hp<|jM 11 I I I hp<|jP 12 I (AT (i1) I I B2 BI (hj:=by omega)) I hp ?_
  refine jT 13 I (AU (i:=i1) (j:=0) I BX (hl:=BY (l:=w) (by omega))) I hp AQ ?_
  refine jP 14 I (AT (i1) I I B2 BI (hj:=by omega)) I hp ?_
  refine jO 15<|EN I (Aq (w.getD (i1 -1) 0#32) I I BI (i:=i1) (j:=0) (hl:=BY (l:=w) (by omega))) I ?_
  rintro _ _ rfl
  refine jP 16 I (AT (i1 -1) I I B2 BI (hj:=by omega)) I hp ?_
  refine jO 17<|EN I (Aq (w.getD (i1) 0#32) I I BI (i:=i1 -1) (j:=0) (hl:=BY (by rw [List.length_set];omega))) I ?_
  rintro _ _ rfl
  refine jD<|A5 K46<|A7 fun _ K47=>A4 fun _ K48=>?_
  rw [show (w.set (i1) (w.getD (i1 -1) 0#32)).set (i1 -1) (w.getD (i1) 0#32)=Ex w (i1) (i1 -1) from rfl]
  refine wM I I<|wM I I<|A2 (Ax I I) I<|A2 (Bl (j:=2) I I) I ?_
  refine A3 K48<|Cx (B0:= [Aa (some ga) cap 1 42 (eU .u32 (w:=32)) (Ex w i1 (i1 -1))]) (σ:=(List Bv)) (fun v=> []) (fun v=> [Aa (some ga) cap 1 42 (eU .u32 (w:=32)) v]) (fun v=>SwR a b l v/\G1 v a (i1+1)/\v.length=n) [0,1,2,6,7,8,10,13,14,15,16,17,18,19,20,21,22,23,24,25,26,27,28,29,30,31,32,33,34,35,36,37,38,39,40,41,42,43,44,45,46,47,48,49,50,51,52,53,54,55,56,57,58,59,60,61,95,96,97,98,99,100,101,102,103,104,105,106,107,108,109,110,111,112,113,114,115,116,117,118,119,120,121,122,123,124,125,126,127,128,129,130,131,132] Cw D8 ?_ ?_
  ·intro K49
   refine AH I (fun hc4=>?_) (fun hc4=>?_)
   ·try simp only [dz] at hc4
    refine A4 fun _ K50=>wM rfl rfl<|A2 (Ax (j:=1) rfl rfl) rfl<|wA rfl rfl<|A3 K50<|AG<|Ak (σ:=Nat × (List Bv)) (fun ⟨j,v2⟩=> [(9,.int .i64 ((j:Nat):Int))]) (fun ⟨j,v2⟩=> [Aa (some ga) cap 1 42 (eU .u32 (w:=32)) v2]) (fun ⟨j,v2⟩=>(a<=j/\j<=i1 -1)/\SwR a b l v2/\SK v2 a (i1+1) j/\v2.length=n) (fun ⟨j,v2⟩=>j) ⟨i1 -1,Ex w i1 (i1 -1)⟩ [0,1,2,6,7,8,10,13,14,15,16,17,18,19,20,21,22,23,24,25,26,27,28,29,30,31,32,33,34,35,36,37,38,39,40,41,42,43,44,45,46,47,48,49,50,51,52,53,54,55,56,57,58,59,60,61,62,63,95,96,97,98,99,100,101,102,103,104,105,106,107,108,109,110,111,112,113,114,115,116,117,118,119,120,121,122,123,124,125,126,127,128,129,130,131,132] Cw D8 ?_ ?_ Sub.refl ?_
    ·exact⟨by omega,.step hsw (by omega) (by omega) (by omega) (by omega),Fj (by omega) (by omega) (by omega) hltw (Jx hod1),by rw [D6];exact hwl⟩
    ·(try dsimp only);exact(Wk.cons Ch Wk.nil)
    rintro⟨j,v2⟩ ⟨hj,hsw2,hof,hv2l⟩ K51 K51
    simp only [List.cons_append,List.nil_append]
    refine A7 fun _ K52=>A4 fun _ K53=>wM I I<|A2 (Bl (j:=1) I I) I ?_
    refine A3 K53<|AH I (fun hc5=>?_) (fun hc5=>?_)
    ·try simp only [dz] at hc5
     refine AA<|A5 K52<|A7 fun _ K54=>AG<|A7 fun _ K55=>A7 fun _ K56=>BC CE [Aa (some ga) cap 1 42 (eU .u32 (w:=32)) v2] (fun i=>([2,2,2,2,2,2,2,2,2,1,2]:List Nat).getD i 0) ?_
     refine jM 0 I I I hp<|jM 1 I I I hp<|jP 2 I (AT (j) I I B2 BI (hj:=by omega)) I hp ?_
     refine jT 3 I (AU (i:=j) (j:=0) I BX (hl:=BY (l:=v2) (by omega))) I hp AQ ?_
     refine jM 4 I I I hp<|jM 5 I I I hp<|jP 6 I (Ax (j:=1) I I) I hp<|jP 7 I (AT (j -1) I I B2 BI (hj:=by omega)) I hp ?_
     refine jT 8 I (AU (i:=j -1) (j:=0) I BX (hl:=BY (l:=v2) (by omega))) I hp AQ ?_
     refine jO 9<|B7 I (AE FC I (hs:=D3 (x:=v2.getD (j) 0#32) (y:=v2.getD (j -1) 0#32))) I I I I ?_
     rintro _ _ ⟨⟨⟩,rfl,hA⟩
     simp only [ca] at hA
     subst hA
     refine⟨(fun _=>AQ),?_⟩
     refine jP 10 I (Au I) I hp<|jD<|A5 K56<|AH I (fun hc6=>?_) (fun hc6=>?_)
     ·try simp only [dz] at hc6
      have hend:j<=a\/vA v2 (j -1)<=vA v2 j:=.inr (by unfold vA at *;omega)
      refine Aj<|Av (K49 (v2) (⟨hsw2,G2 hend hof,hv2l⟩))
     try simp only [dz] at hc6
     have hlt2:vA v2 j<vA v2 (j -1):=by unfold vA at *;omega
     have haj:=cM (hlb.sw hsw2 (by omega)) (by omega) (by omega) (by omega) hlt2
     refine AA<|A5 K55<|Am CE (jz [15,17] 18) ?_
     refine jM 0 I I I hp<|jM 1 I I I hp<|jM 2 I I I hp<|jM 3 I I I hp<|jP 4 I (Ax (j:=1) I I) I hp<|jM 5 I I I hp<|jM 6 I I I hp<|jP 7 I (Ax (j:=1) I I) I hp<|jP 8 I (AT (j -1) I I B2 BI (hj:=by omega)) I hp ?_
     refine jT 9 I (AU (i:=j -1) (j:=0) I BX (hl:=BY (l:=v2) (by omega))) I hp AQ ?_
     refine jM 10 I I I hp<|jM 11 I I I hp<|jP 12 I (AT (j) I I B2 BI (hj:=by omega)) I hp ?_
     refine jT 13 I (AU (i:=j) (j:=0) I BX (hl:=BY (l:=v2) (by omega))) I hp AQ ?_
     refine jP 14 I (AT (j) I I B2 BI (hj:=by omega)) I hp ?_
     refine jO 15<|EN I (Aq (v2.getD (j -1) 0#32) I I BI (i:=j) (j:=0) (hl:=BY (l:=v2) (by omega))) I ?_
     rintro _ _ rfl
     refine jP 16 I (AT (j -1) I I B2 BI (hj:=by omega)) I hp ?_
     refine jO 17<|EN I (Aq (v2.getD (j) 0#32) I I BI (i:=j -1) (j:=0) (hl:=BY (by rw [List.length_set];omega))) I ?_
     rintro _ _ rfl
     refine jD<|A5 K54<|AD ?_
     rw [show (v2.set (j) (v2.getD (j -1) 0#32)).set (j -1) (v2.getD (j) 0#32)=Ex v2 (j) (j -1) from rfl]
     refine wM I I<|A2 (Ax (j:=1) I I) I<|wA I I<|AW<|Av (K51 ⟨j -1,Ex v2 j (j -1)⟩ (⟨by (try dsimp only);omega,.step hsw2 (by omega) (by omega) (by omega) (by omega),Fj (by omega) haj (by omega) hlt2 hof,by(try dsimp only);rw [D6];exact hv2l⟩) (by (try dsimp only);omega))
    try simp only [dz] at hc5
    have hend:j<=a\/vA v2 (j -1)<=vA v2 j:=.inl (by omega)
    refine Aj<|Av (K49 (v2) (⟨hsw2,G2 hend hof,hv2l⟩))
   try simp only [dz] at hc4
   refine AA<|Av (K49 (Ex w i1 (i1 -1)) (⟨.step hsw (by omega) (by omega) (by omega) (by omega),G2 (.inl (by omega)) (Fj (by omega) (by omega) (by omega) hltw (Jx hod1)),by(try dsimp only);rw [D6];exact hwl⟩))
  rintro v ⟨hsv,hov,hvl⟩
  simp only [List.cons_append,List.nil_append]
  refine A5 K47<|A4 fun _ K57=>wM I I<|wM I I<|A2 (Ax I I) I<|A2 (Bl (j:=2) I I) I ?_
  refine A3 K57<|Cx (B0:= [Aa (some ga) cap 1 42 (eU .u32 (w:=32)) v]) (σ:=(List Bv)) (fun u=> []) (fun u=> [Aa (some ga) cap 1 42 (eU .u32 (w:=32)) u]) (fun u=>SwR a b l u/\G1 u a i1/\u.length=n) [0,1,2,6,7,8,9,13,14,15,16,17,18,19,20,21,22,23,24,25,26,27,28,29,30,31,32,33,34,35,36,37,38,39,40,41,42,43,44,45,46,47,48,49,50,51,52,53,54,55,56,57,58,59,60,61,62,63,64,65,66,67,68,69,70,71,72,73,74,75,76,77,78,79,80,81,82,83,84,85,86,87,88,89,90,91,92,93,94,95,96,97,98] Cw D8 ?_ ?_
  ·intro K58
   refine AH I (fun hc7=>?_) (fun hc7=>?_)
   ·try simp only [dz] at hc7
    refine A4 fun _ K59=>wM rfl rfl<|A2 (AN (j:=1) rfl rfl) rfl<|wA rfl rfl<|A3 K59<|AG<|Ak (σ:=Nat × (List Bv)) (fun ⟨j3,u3⟩=> [(10,.int .i64 ((j3:Nat):Int))]) (fun ⟨j3,u3⟩=> [Aa (some ga) cap 1 42 (eU .u32 (w:=32)) u3]) (fun ⟨j3,u3⟩=>(i1+1<=j3/\j3<=b)/\SwR a b l u3/\G1 u3 a i1/\u3.length=n) (fun ⟨j3,u3⟩=>b -j3) ⟨i1+1,v⟩ [0,1,2,6,7,8,9,13,14,15,16,17,18,19,20,21,22,23,24,25,26,27,28,29,30,31,32,33,34,35,36,37,38,39,40,41,42,43,44,45,46,47,48,49,50,51,52,53,54,55,56,57,58,59,60,61,62,63,64,65,66,67,68,69,70,71,72,73,74,75,76,77,78,79,80,81,82,83,84,85,86,87,88,89,90,91,92,93,94,95,96,97,98,99,100] Cw D8 ?_ ?_ Sub.refl ?_
    ·exact⟨by omega,hsv,fun p q h0 h1 h2=>hov p q h0 h1 (by omega),hvl⟩
    ·(try dsimp only);exact(Wk.cons Ch Wk.nil)
    rintro⟨j3,u3⟩ ⟨hj3,hs3,ho3,hu3l⟩ K60 K60
    simp only [List.cons_append,List.nil_append]
    refine A7 fun _ K61=>A4 fun _ K62=>wM I I<|wM I I<|A2 (An I I) I<|A3 K62<|AH I (fun hc8=>?_) (fun hc8=>?_)
    ·try simp only [dz] at hc8
     refine AA<|A5 K61<|A7 fun _ K63=>AG<|A7 fun _ K64=>A7 fun _ K65=>BC CE [Aa (some ga) cap 1 42 (eU .u32 (w:=32)) u3] (fun i=>([2,2,2,2,2,2,2,2,2,1,2]:List Nat).getD i 0) ?_
     refine jM 0 I I I hp<|jM 1 I I I hp<|jP 2 I (AT (j3) I I B2 BI (hj:=by omega)) I hp ?_
     refine jT 3 I (AU (i:=j3) (j:=0) I BX (hl:=BY (l:=u3) (by omega))) I hp AQ ?_
     refine jM 4 I I I hp<|jM 5 I I I hp<|jP 6 I (Ax (j:=1) I I) I hp<|jP 7 I (AT (j3 -1) I I B2 BI (hj:=by omega)) I hp ?_
     refine jT 8 I (AU (i:=j3 -1) (j:=0) I BX (hl:=BY (l:=u3) (by omega))) I hp AQ ?_
     refine jO 9<|B7 I (AE FC I (hs:=D3 (x:=u3.getD (j3) 0#32) (y:=u3.getD (j3 -1) 0#32))) I I I I ?_
     rintro _ _ ⟨⟨⟩,rfl,hA⟩
     simp only [ca] at hA
     subst hA
     refine⟨(fun _=>AQ),?_⟩
     refine jP 10 I (Au I) I hp<|jD<|A5 K65<|AH I (fun hc9=>?_) (fun hc9=>?_)
     ·try simp only [dz] at hc9
      refine Aj<|Av (K58 (u3) (⟨hs3,ho3,hu3l⟩))
     try simp only [dz] at hc9
     refine AA<|A5 K64<|Am CE (jz [15,17] 18) ?_
     refine jM 0 I I I hp<|jM 1 I I I hp<|jM 2 I I I hp<|jM 3 I I I hp<|jP 4 I (Ax (j:=1) I I) I hp<|jM 5 I I I hp<|jM 6 I I I hp<|jP 7 I (Ax (j:=1) I I) I hp<|jP 8 I (AT (j3 -1) I I B2 BI (hj:=by omega)) I hp ?_
     refine jT 9 I (AU (i:=j3 -1) (j:=0) I BX (hl:=BY (l:=u3) (by omega))) I hp AQ ?_
     refine jM 10 I I I hp<|jM 11 I I I hp<|jP 12 I (AT (j3) I I B2 BI (hj:=by omega)) I hp ?_
     refine jT 13 I (AU (i:=j3) (j:=0) I BX (hl:=BY (l:=u3) (by omega))) I hp AQ ?_
     refine jP 14 I (AT (j3) I I B2 BI (hj:=by omega)) I hp ?_
     refine jO 15<|EN I (Aq (u3.getD (j3 -1) 0#32) I I BI (i:=j3) (j:=0) (hl:=BY (l:=u3) (by omega))) I ?_
     rintro _ _ rfl
     refine jP 16 I (AT (j3 -1) I I B2 BI (hj:=by omega)) I hp ?_
     refine jO 17<|EN I (Aq (u3.getD (j3) 0#32) I I BI (i:=j3 -1) (j:=0) (hl:=BY (by rw [List.length_set];omega))) I ?_
     rintro _ _ rfl
     refine jD<|A5 K63<|AD ?_
     rw [show (u3.set (j3) (u3.getD (j3 -1) 0#32)).set (j3 -1) (u3.getD (j3) 0#32)=Ex u3 (j3) (j3 -1) from rfl]
     refine wM I I<|A2 (AN (j:=1) I I) I<|wA I I<|AW<|Av (K60 ⟨j3+1,Ex u3 j3 (j3 -1)⟩ (⟨by (try dsimp only);omega,.step hs3 (by omega) (by omega) (by omega) (by omega),QR ho3 (SwR.step (b:=b) .refl (by omega) (by omega) (by omega) (by omega)) (by omega),by(try dsimp only);rw [D6];exact hu3l⟩) (by (try dsimp only);omega))
    try simp only [dz] at hc8
    refine Aj<|Av (K58 (u3) (⟨hs3,ho3,hu3l⟩))
   try simp only [dz] at hc7
   refine AA<|Av (K58 (v) (⟨hsv,fun p q h0 h1 h2=>hov p q h0 h1 (by omega),hvl⟩))
  rintro u ⟨hsu,hou,hul⟩
  simp only [List.cons_append,List.nil_append]
  refine A5 K8<|AD<|wM I I<|A2 (AN (j:=1) I I) I<|wA I I<|AW<|Av (K5 ⟨i1,q+1,u⟩ (⟨by (try dsimp only);omega,hsu,hou,hul⟩) (by (try dsimp only);omega))
 try simp only [dz] at hc0
 refine Aj<|A5 K3<|A4 fun _ K66=>wA I I<|A3 K66<|AK ?_
 exact hret.go ⟨(false,w),hsw,fun h=>by cases h⟩ (BR rfl rfl)

theorem ej{s:Nat}{x:BitVec 64} :Ct Tryz.prog 118 [.pointer (some ⟨s,0,none⟩)] [cl s 173 [.int .u64 ((x.toNat:Nat):Int)]] (fun g:BitVec 64=>.int .u64 ((g.toNat:Nat):Int)) (fun g=> [cl s 173 [.int .u64 ((g.toNat:Nat):Int)]]):=by
 refine AY (n:=33) Tryz.func118 I I I fun F w0 Q hret hnorm hp=>?_
 change WC _ _ _ _ _ _ _ (_::F)
 refine A4 fun _ K1=>wA I I<|A3 K1<|A7 fun _ K2=>Am CE (jz [9] 10) ?_
 refine jM 0 I I I hp<|jP 1 I (A9 I) I hp<|jT 2 I (A6 I MX) I hp AQ ?_
 refine jM 3 I I I hp<|jP 4 I (A9 I) I hp<|jT 5 I (A6 I MX) I hp AQ ?_
 refine jP 6 I (Pn (j:=13) I I) I hp ?_
 refine jP 7 I (Pm I I) I hp ?_
 refine jP 8 I (A9 I) I hp<|jO 9<|EN I (Ar I I TC) I ?_
 rintro _ _ rfl
 refine jD<|A5 K2<|A7 fun _ K3=>Am CE (jz [9] 10) ?_
 refine jM 0 I I I hp<|jP 1 I (A9 I) I hp<|jT 2 I (A6 I MX) I hp AQ ?_
 refine jM 3 I I I hp<|jP 4 I (A9 I) I hp<|jT 5 I (A6 I MX) I hp AQ ?_
 refine jP 6 I (bB (j:=7) I I) I hp ?_
 refine jP 7 I (Pm I I) I hp ?_
 refine jP 8 I (A9 I) I hp<|jO 9<|EN I (Ar I I TC) I ?_
 rintro _ _ rfl
 refine jD<|A5 K3<|A7 fun _ K4=>Am CE (jz [9] 10) ?_
 refine jM 0 I I I hp<|jP 1 I (A9 I) I hp<|jT 2 I (A6 I MX) I hp AQ ?_
 refine jM 3 I I I hp<|jP 4 I (A9 I) I hp<|jT 5 I (A6 I MX) I hp AQ ?_
 refine jP 6 I (Pn (j:=17) I I) I hp ?_
 refine jP 7 I (Pm I I) I hp ?_
 refine jP 8 I (A9 I) I hp<|jO 9<|EN I (Ar I I TC) I ?_
 rintro _ _ rfl
 refine jD<|A5 K4<|A4 fun _ K5=>wM I I<|A2 (A9 I) I<|A2 (A6 I MX) I ?_
 refine wA I I<|A3 K5<|AK ?_
 exact hret.go (((x ^^^ x <<<13) ^^^ (x ^^^ x <<<13) >>>7) ^^^ ((x ^^^ x <<<13) ^^^ (x ^^^ x <<<13) >>>7) <<<17) (BR rfl rfl)

theorem ci{n:Nat}(h1:1<=n)(h2:n<=1000):Ct Tryz.prog 117 [.int .i64 ((n:Nat):Int)] [] (fun g: {q:BitVec 64 // n<=q.toNat/\q.toNat<=2*n} =>.int .u64 ((g.1.toNat:Nat):Int)) (fun g=> []):=by
 refine AY (n:=7) Tryz.func117 I I I fun F w0 Q hret hnorm hp=>?_
 change WC _ _ _ _ _ _ _ (F)
 refine A4 fun _ K1=>wA I I<|A3 K1<|A4 fun _ K2=>wM I I<|A2 (Kc I N9 (r:=((n:Nat):Int)) (Kf (by omega))) I ?_
 refine AB (AE dt I (hs:=P2 (n:=n) (by omega))) I I I ?_
 rintro _ _ ⟨⟨⟩,rfl,hA⟩
 simp only [ca] at hA
 subst hA
 refine A2 (Pn (a:=1#64) I I) I ?_
 refine wA I I<|A3 K2<|AK ?_
 exact hret.goE ⟨1#64 <<<Go.Lib.bitLen (n:Int).toNat,ch h1 h2⟩ (BR rfl rfl) rfl

theorem eC{ga cap n a b:Nat}{l:List Bv}(hl:l.length=n)(hn:n<=1000)(hab:a+13<=b)(hb:b<=n):Ct Tryz.prog 107 [sl (some ga) n cap,.int .i64 ((a:Nat):Int),.int .i64 ((b:Nat):Int)] [Aa (some ga) cap 1 42 (eU .u32 (w:=32)) l] (fun g: {m:List Bv // SwR a b l m} =>.tuple #[]) (fun g=> [Aa (some ga) cap 1 42 (eU .u32 (w:=32)) g.1]):=by
 refine AY (n:=65) Tryz.func107 I I I fun F w0 Q hret hnorm hp=>?_
 change WC _ _ _ _ _ _ _ (_::F)
 refine A4 fun _ K1=>wM I I<|wM I I<|A2 (Ax I I) I<|wA I I<|A3 K1<|A4 fun _ K2=>wM I I<|A2 (Bl (j:=8) I I) I ?_
 refine A3 K2<|AH I (fun hc0=>?_) (fun hc0=>?_)
 ·try simp only [dz] at hc0
  refine A4 fun _ K3=>wM I I<|A2 (LI I XR (h':=ep)) I ?_
  refine AB (AZ ei) I I I ?_
  rintro _ _ ⟨b7,rfl,rfl⟩
  refine AX (Ar I I TC) I I ?_
  rintro _ _ rfl
  refine A3 K3<|A4 fun _ K4=>wM I I<|AB (AE g3 I (hs:=ci (n:=b -a) (by omega) (by omega))) I I I ?_
  rintro _ _ ⟨q,rfl,hA⟩
  simp only [ca] at hA
  subst hA
  obtain⟨hq1,hq2⟩:=q.2
  refine wA I I<|A3 K4<|A4 fun _ K5=>wM I I<|wM I I<|A2 (F4 (j:=4) I I) I ?_
  refine A2 (ET (j:=2) I I) I ?_
  refine A2 (AN rfl rfl) rfl<|A2 (Ax (j:=1) rfl rfl) rfl<|wA rfl rfl<|A3 K5<|AG<|Ak (σ:=Nat × (BitVec 64) × (List Bv)) (fun ⟨i,x,w⟩=> [(9,.int .i64 ((i:Nat):Int))]) (fun ⟨i,x,w⟩=> [cl b7 173 [.int .u64 ((x.toNat:Nat):Int)],Aa (some ga) cap 1 42 (eU .u32 (w:=32)) w]) (fun ⟨i,x,w⟩=>(a<=i/\i<=a+(b -a) / 4*2+2)/\SwR a b l w/\w.length=n) (fun ⟨i,x,w⟩=>a+(b -a) / 4*2+2 -i) ⟨a+(b -a) / 4*2 -1,BitVec.ofNat 64 (b -a),l⟩ [0,1,6,7,8] Cw D8 ?_ ?_ Sub.refl ?_
  ·exact⟨by omega,.refl,hl⟩
  ·(try dsimp only);exact(Wk.cons Ch Wk.nil)
  rintro⟨i,x,w⟩ ⟨hi,hsw,hwl⟩ K6 K6
  simp only [List.cons_append,List.nil_append]
  refine A7 fun _ K7=>A4 fun _ K8=>wM I I<|wM I I<|wM I I<|A2 (F4 (j:=4) I I) I ?_
  refine A2 (ET (j:=2) I I) I ?_
  refine A2 (AN I I) I<|A2 (AN (j:=1) I I) I<|A2 (D5 I I) I ?_
  refine A3 K8<|AH I (fun hc1=>?_) (fun hc1=>?_)
  ·try simp only [dz] at hc1
   refine AA<|A5 K7<|A7 fun _ K9=>AG<|A4 fun _ K10=>AB (AE g0 I (hs:=ej (s:=b7) (x:=x))) I I I ?_
   rintro _ _ ⟨y,rfl,hA⟩
   simp only [ca] at hA
   subst hA
   refine wM I I<|A2 (bA (b:=1#64) I I) I ?_
   refine A2 (bI I I) I ?_
   have hx:=eE (y:=y) (by omega) hq1 hq2 (by omega)
   refine A2 (Yl I XS) I ?_
   refine wA I I<|A3 K10<|A7 fun _ K11=>A4 fun _ K12=>wM I I<|wM I I<|A2 (Bl I I) I ?_
   refine A3 K12<|Cx (B0:= []) (σ:=Nat) (fun o=> [(10,.int .i64 ((o:Nat):Int))]) (fun o=> []) (fun o=>o<b -a) [0,1,6,7,8,9,26,27,28,29,30,31,32,33,34,35,36,37,38,39,40,41,42,43,47,48,49,50,51,52,53,54,55,56,57,58,59,60,61,62,63,64] Cw D8 ?_ ?_
   ·intro K13
    refine AH I (fun hc2=>?_) (fun hc2=>?_)
    ·try simp only [dz] at hc2
     refine AD<|wM I I<|wM I I<|A2 (Ax I I) I<|wA I I<|AW<|Av (K13 ((y &&& (q.1 -1#64)).toNat -(b -a)) (by (try dsimp only);omega))
    try simp only [dz] at hc2
    refine AA<|Av (K13 ((y &&& (q.1 -1#64)).toNat) (by (try dsimp only);omega))
   rintro o ho
   simp only [List.cons_append,List.nil_append]
   refine A5 K11<|Am CE (jz [17,19] 20) ?_
   refine jM 0 I I I hp<|jM 1 I I I hp<|jM 2 I I I hp<|jM 3 I I I hp<|jM 4 I I I hp<|jP 5 I (AN I I) I hp<|jM 6 I I I hp<|jM 7 I I I hp<|jM 8 I I I hp<|jP 9 I (AN I I) I hp<|jP 10 I (AT (a+o) I I B2 BI (hj:=by omega)) I hp ?_
   refine jT 11 I (AU (i:=a+o) (j:=0) I BX (hl:=BY (l:=w) (by omega))) I hp AQ ?_
   refine jM 12 I I I hp<|jM 13 I I I hp<|jP 14 I (AT (i) I I B2 BI (hj:=by omega)) I hp ?_
   refine jT 15 I (AU (i:=i) (j:=0) I BX (hl:=BY (l:=w) (by omega))) I hp AQ ?_
   refine jP 16 I (AT (i) I I B2 BI (hj:=by omega)) I hp ?_
   refine jO 17<|EN I (Aq (w.getD (a+o) 0#32) I I BI (i:=i) (j:=0) (hl:=BY (l:=w) (by omega))) I ?_
   rintro _ _ rfl
   refine jP 18 I (AT (a+o) I I B2 BI (hj:=by omega)) I hp ?_
   refine jO 19<|EN I (Aq (w.getD (i) 0#32) I I BI (i:=a+o) (j:=0) (hl:=BY (by rw [List.length_set];omega))) I ?_
   rintro _ _ rfl
   refine jD<|A5 K9<|AD ?_
   rw [show (w.set (i) (w.getD (a+o) 0#32)).set (a+o) (w.getD (i) 0#32)=Ex w (i) (a+o) from rfl]
   refine wM I I<|A2 (AN (j:=1) I I) I<|wA I I<|AW<|Av (K6 ⟨i+1,y,Ex w i (a+o)⟩ (⟨by (try dsimp only);omega,.step hsw (by omega) (by omega) (by omega) (by omega),by(try dsimp only);rw [D6];exact hwl⟩) (by (try dsimp only);omega))
  try simp only [dz] at hc1
  refine Aj ?_
  exact hnorm.go ⟨w,hsw⟩ (Ke rfl)
 try simp only [dz] at hc0
 omega
end Go.Proofs.YtoakfknnaiapiaaGreat
