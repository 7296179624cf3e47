/-
  Contracts of functions that the claim reaches, or the logic and the plain laws that they rest on, or the row over them. (Conditions: none beyond the statement.)
-/
import Derived.Test.YtoakfknnaiapiaaGreatKAR
import Derived.Test.YtoakfknnaiapiaaGreatKAO
import Derived.Test.YtoakfknnaiapiaaGreatKAC
set_option linter.all false
namespace Go.Proofs.YtoakfknnaiapiaaGreat
open Go.RowKit Go.SL Go.ShM Go.SvM
set_option maxHeartbeats 1000000
set_option maxRecDepth 20000
set_option linter.all false
theorem Zz:el Tryz.prog 45=some (1,24):=by kernel_rfl
theorem Fa:Tryz.prog.underlying 35=some (.slice 45):=by kernel_rfl
theorem Yy:zr Tryz.prog 45=some [.slice none 0 0]:=by kernel_rfl
theorem gC{l:List B8}{i:Nat}(h:i<l.length):l[i]? =some (l.getD i 0#8):=by rw [List.getD_eq_getElem?_getD,List.getElem?_eq_getElem h];rfl

theorem OR{X:Ao}{v:Value}{ps:List PB}{ao:Option Addr}{cap:Nat}(hS:Sv [X] v 1 Hj ps ao cap:=by assumption)(hn:ps.length<=990000000000:=by omega)(hb: ∀p∈ps,p.l.length<=900000000000:=by assumption):Ct Tryz.prog 7 [v] [X,star (IH 5) ps] (fun _:Unit=>.bool true) (fun _=> [X]):=by
 refine AY (n:=116) Tryz.func7 I I I fun F w0 Q hret hnorm hp=>?_
 change WC _ _ _ _ _ _ _ (_::_::F)
 refine A4 fun _ K1=>wA I I<|A3 K1<|A7 fun _ K2=>A4 fun _ K3=>wA I I<|A3 K3<|AG ?_
 rw [show star (IH 5) ps=star (IH 5) (ID ps 0) from by rw [cq]]
 refine Ak (σ:=Nat) (fun k=> [(3,.int .i64 ((k:Nat):Int))]) (fun k=> [star (IH 5) (ID ps k)]) (fun k=>k<=ps.length) (fun k=>ps.length -k) (0) [0,2,5,6,7,8,9,10,11,37,38,39,40,41,42,43,44,45,46,47,48,49,50,51,52,53,54,55,56,57,58,59,60,61,62,63,64,65,66,67,68,69,70,71,72,73,74,75,76,77,78,79,80,81,82,83,84,85,86,87,88,89,90,91,92,93,94,95,96,97,98,99,100,101,102,103,104,105,106,107,108,109,110,111,112,113,114,115] Cw D8 ?_ ?_ Sub.refl ?_
 ·exact Nat.zero_le _
 ·(try dsimp only);exact(Wk.cons Ch Wk.nil)
 rintro k hk K4 K4
 simp only [List.cons_append,List.nil_append]
 refine A7 fun _ K5=>A4 fun _ K6=>wM I I<|wM I I<|A2 (Al I I Fa) I ?_
 refine A2 (An I I) I<|A3 K6<|AH I (fun hc0=>?_) (fun hc0=>?_)
 ·try simp only [dz] at hc0
  obtain⟨⟨pa,pc,pl⟩,hpk⟩: ∃p,ps[k]? =some p:=⟨_,List.getElem?_eq_getElem (by omega)⟩
  have hpb:=hb _ (List.mem_of_getElem? hpk)
  dsimp only at hpb
  refine ME (IH 5) (ID ps k) k (x:=⟨pa,pc,pl⟩) (by rw [Oy hpk,if_neg (by omega)]) ?_
  rw [show IH 5 ⟨pa,pc,pl⟩=Aa pa pc 1 5 (eU .u8 (w:=8)) pl from rfl]
  refine AA<|A5 K5<|A7 fun _ K7=>AG<|A4 fun _ K8=>wA I I<|A3 K8<|AG ?_
  rw [show Aa pa pc 1 5 (eU .u8 (w:=8)) pl=Aa pa pc 1 5 (eU .u8 (w:=8)) (Nm (Ge (k+1)) pl 0) from by rw [O0]]
  refine Ak (σ:=Nat) (fun i'=> [(4,.int .i64 ((i':Nat):Int))]) (fun i'=> [Aa pa pc 1 5 (eU .u8 (w:=8)) (Nm (Ge (k+1)) pl i')]) (fun i'=>i'<=pl.length) (fun i'=>pl.length -i') (0) [0,2,3,5,6,7,8,9,10,11,12,13,14,15,16,17,37,38,39,40,41,42,43,44,45,46,47,48,49,50,51,52,53,54,55,56,57,58,59,60,61,62,63,64,65,66,67,68,69,70,71,72,73,74,75,76,77,78,79,80,81,82,83,84,85,86,87,88,89,90,91,92,93,94,95,96,97,98,99,100,101,102,103,104,105,106,107,108,109,110,111,112,113,114,115] Cw D8 ?_ ?_ Sub.refl ?_
  ·exact Nat.zero_le _
  ·(try dsimp only);exact(Wk.cons Ch Wk.nil)
  rintro i' hi K9 K9
  simp only [List.cons_append,List.nil_append]
  have hol:=J0 (Ge (k+1)) hi
  refine A7 fun _ K10=>A4 fun _ K11=>wM I I<|wM I I<|wM I I<|A2 (AO k I I Fa Gi (hA:=hS) (hi:=by omega)) I ?_
  refine A2 (Af (i:=k) (j:=0) (u:=sl pa pl.length pc) I Bg (hA:=hS) (hl:=hpk)) I ?_
  refine A2 (BA I I BQ) I<|A2 (An I I) I<|A3 K11<|AH I (fun hc1=>?_) (fun hc1=>?_)
  ·try simp only [dz] at hc1
   refine Cd (a:=pa) Bf (by omega) (fun gb hgb hcp=>?_)
   subst hgb
   refine AA<|A5 K10<|A7 fun _ K12=>AG<|Am CE (fun i=>([2,2,2,2,2,2,2,2,1,2,0]:List Nat).getD i 0) ?_
   refine jM 0 I I I hp<|jM 1 I I I hp<|jP 2 I (AO k I I Fa Gi (hA:=hS) (hi:=by omega)) I hp ?_
   refine jT 3 I (Af (i:=k) (j:=0) (u:=sl (some gb) pl.length pc) I Bg (hA:=hS) (hl:=hpk)) I hp AQ ?_
   refine jM 4 I I I hp<|jM 5 I I I hp<|jP 6 I (AN (j:=1) I I) I hp<|jM 7 I I I hp<|jO 8<|B7 I (AE Y8 I (hs:=KC (k:=k+1) (i:=i'))) I I I I ?_
   rintro _ _ ⟨⟨⟩,rfl,hA⟩
   simp only [ca] at hA
   subst hA
   refine⟨(fun _=>Bh),?_⟩
   refine jP 9 I (AT _ I I BQ Ki) I hp ?_
   refine jO 10<|EN I (Aq (Ge (k+1) i') I I Ki (j:=0) (i:=i') (hl:=gC (by omega))) I ?_
   rintro _ _ rfl
   rw [Iz (Ge (k+1)) (by omega)]
   refine jD<|A5 K12<|AD<|wM I I<|A2 (AN (j:=1) I I) I<|wA I I<|AW<|Az (K9 (i'+1) (by omega) (by omega))
  try simp only [dz] at hc1
  obtain rfl:i'=pl.length:=by omega
  rw [J1]
  rw [show Aa pa pc 1 5 (eU .u8 (w:=8)) (D9 (Ge (k+1)) 0 pl.length)=IH 5 (Qd k ⟨pa,pc,pl⟩) from rfl]
  refine MD (IH 5) (ID ps k) k (Qd k ⟨pa,pc,pl⟩) (by rw [Qc];omega) ?_
  rw [X0 hpk]
  refine Aj<|A5 K7<|AD<|wM I I<|A2 (AN (j:=1) I I) I<|wA I I<|AW<|Az (K4 (k+1) (by omega) (by omega))
 try simp only [dz] at hc0
 obtain rfl:k=ps.length:=by omega
 rw [show star (IH 5) (ID ps ps.length)=star (IH 5) ((ID ps ps.length).drop 0) from rfl]
 refine Cz (fun w h=>BO (e:=1) (T:=45) (f:=LW) h) ?_
 refine Aj<|A5 K2<|A4 fun _ K13=>A2 (Ag (v:=sl none 0 0) I) I<|CJ LW 1 45 ?_
 refine A3 K13<|A7 fun _ K14=>A4 fun _ K15=>wA I I<|A3 K15<|AG<|Gq (cO 5) ?_
 refine Ak (σ:=Nat × (List QI) × (Option Nat) × Nat) (fun ⟨k,qs,go,gc⟩=> [(5,sl go qs.length gc),(6,.int .i64 ((k:Nat):Int))]) (fun ⟨k,qs,go,gc⟩=> [star (cO 5) qs,star (IH 5) ((ID ps ps.length).drop k),Aa go gc 1 45 LW qs]) (fun ⟨k,qs,go,gc⟩=>k<=ps.length/\qs.length=k/\bK ps qs) (fun ⟨k,qs,go,gc⟩=>ps.length -k) ⟨0,[],none,0⟩ [0,2,9,10,11,68,69,70,71,72,73,74,75,76,77,78,79,80,81,82,83,84,85,86,87,88,89,90,91,92,93,94,95,96,97,98,99,100,101,102,103,104,105,106,107,108,109,110,111,112,113,114,115] Cw D8 ?_ ?_ Sub.refl ?_
 ·exact⟨Nat.zero_le _,rfl,Yo⟩
 ·(try dsimp only);exact(Wk.cons Ch (Wk.cons Ch Wk.nil))
 rintro⟨k,qs,go,gc⟩ ⟨hk,hql,hQ⟩ K16 K16
 simp only [List.cons_append,List.nil_append]
 refine A7 fun _ K17=>A4 fun _ K18=>wM I I<|wM I I<|A2 (Al I I Fa) I ?_
 refine A2 (An I I) I<|A3 K18<|AH I (fun hc2=>?_) (fun hc2=>?_)
 ·try simp only [dz] at hc2
  obtain⟨⟨pa,pc,pl⟩,hpk⟩: ∃p,ps[k]? =some p:=⟨_,List.getElem?_eq_getElem (by omega)⟩
  have hpb:=hb _ (List.mem_of_getElem? hpk)
  dsimp only at hpb
  refine MF (IH 5) (ID ps ps.length) k (x:=Qd k ⟨pa,pc,pl⟩) (X1 hpk) ?_
  rw [show IH 5 (Qd k ⟨pa,pc,pl⟩)=Aa pa pc 1 5 (eU .u8 (w:=8)) (D9 (Ge (k+1)) 0 pl.length) from rfl]
  refine Bu (fun w h=>B1 (a:=pa) (cap:=pc) (e:=1) (T:=5) (f:=eU .u8 (w:=8)) (l:=D9 (Ge (k+1)) 0 pl.length) Bf h) (fun hpf=>?_)
  rw [BL] at hpf
  refine Cz (fun w h=>JA h) ?_
  refine AA<|A5 K17<|A7 fun _ K19=>AG<|A4 fun _ K20=>wM I I<|wM I I<|A2 (AO k I I Fa Gi (hA:=hS) (hi:=by omega)) I ?_
  refine A2 (Af (i:=k) (j:=0) (u:=sl pa pl.length pc) I Bg (hA:=hS) (hl:=hpk)) I ?_
  refine wA I I<|A3 K20<|A7 fun _ K21=>A4 fun _ K22=>wA I I<|A3 K22<|AG ?_
  rw [show Jr pa pc pa pc 1 5 (eU .u8 (w:=8)) (D9 (Ge (k+1)) 0 pl.length) (D9 (Ge (k+1)) 0 pl.length)=Jr pa pc pa pc 1 5 (eU .u8 (w:=8)) (D9 (Ge (k+1)) 0 pl.length) (D9 (Ge (k+1)) 0 (pl.length+0)) from rfl]
  refine Ak (σ:=Nat × (Option Nat) × Nat) (fun ⟨i',a',c'⟩=> [(7,sl a' (pl.length+i') c'),(8,.int .i64 ((i':Nat):Int))]) (fun ⟨i',a',c'⟩=> [Jr pa pc a' c' 1 5 (eU .u8 (w:=8)) (D9 (Ge (k+1)) 0 pl.length) (D9 (Ge (k+1)) 0 (pl.length+i'))]) (fun ⟨i',a',c'⟩=>i'<=70) (fun ⟨i',a',c'⟩=>70 -i') ⟨0,pa,pc⟩ [0,2,5,6,9,10,11,37,38,39,40,41,42,43,44,45,46,64,65,66,67,68,69,70,71,72,73,74,75,76,77,78,79,80,81,82,83,84,85,86,87,88,89,90,91,92,93,94,95,96,97,98,99,100,101,102,103,104,105,106,107,108,109,110,111,112,113,114,115] Cw D8 ?_ ?_ Sub.refl ?_
  ·exact Nat.zero_le _
  ·(try dsimp only);exact(Wk.cons Ch (Wk.cons Ch Wk.nil))
  rintro⟨i',a',c'⟩ hi K23 K23
  simp only [List.cons_append,List.nil_append]
  have hml:=BL (Ge (k+1)) 0 (pl.length+i')
  refine A7 fun _ K24=>A4 fun _ K25=>wM I I<|A2 (An (j:=70) I I) I<|A3 K25<|AH I (fun hc3=>?_) (fun hc3=>?_)
  ·try simp only [dz] at hc3
   refine AA<|A5 K24<|A7 fun _ K26=>AG<|AD<|wM I I<|wM I I<|A2 (AN (j:=1) I I) I<|wM I I<|wM I I<|A2 (AO k I I Fa Gi (hA:=hS) (hi:=by omega)) I ?_
   refine A2 (Af (i:=k) (j:=0) (u:=sl pa pl.length pc) I Bg (hA:=hS) (hl:=hpk)) I ?_
   refine A2 (BA I I BQ) I<|wM I I<|A2 (AN I I) I<|AB (AE Y8 I (hs:=KC (k:=k+1) (i:=pl.length+i'))) I I I ?_
   rintro _ _ ⟨⟨⟩,rfl,hA⟩
   simp only [ca] at hA
   subst hA
   refine AB (Br (xs:=eU .u8 (Ge (k+1) (pl.length+i'))) I BQ gY Ki) I I I ?_
   rintro _ _ ⟨b62,rfl,rfl⟩
   refine AB (MI (l:=D9 (Ge (k+1)) 0 pl.length) (l':=D9 (Ge (k+1)) 0 (pl.length+i')) (Em .u8 (w:=8)) (Ge (k+1) (pl.length+i')) I I BQ BQ Xk (Hr _ _ _) (hlen:=by rw [BL])) I I I ?_
   rintro _ _ ⟨a63,cap63,rfl,rfl⟩
   rw [BL,Lp,Nat.add_assoc]
   refine wA I I<|AW<|A5 K26<|AD<|wM I I<|A2 (AN (j:=1) I I) I<|wA I I<|AW<|Az (K23 ⟨i'+1,a63,cap63⟩ (by dsimp only;omega) (by dsimp only;omega))
  try simp only [dz] at hc3
  obtain rfl:i'=70:=by omega
  refine Bu (fun w h=>I0 (a:=pa) (cap:=pc) (a':=a') (cap':=c') (e:=1) (T:=5) (f:=eU .u8 (w:=8)) (l:=D9 (Ge (k+1)) 0 pl.length) (l':=D9 (Ge (k+1)) 0 (pl.length+70)) h) (fun hqf=>?_)
  rw [BL] at hqf
  have hq1:a'≠none:=fun e=>by have:=congrArg List.length (hqf.1 e);rw [BL] at this;simp at this
  have hq2:pl.length+70<=c':=hqf.2
  have hq3:pa=none ->pl.length=0:=fun e=>by have:=congrArg List.length (hpf.1 e);rw [BL] at this;exact this
  have hq4:pl.length<=pc:=hpf.2
  rw [show Jr pa pc a' c' 1 5 (eU .u8 (w:=8)) (D9 (Ge (k+1)) 0 pl.length) (D9 (Ge (k+1)) 0 (pl.length+70))=cO 5 ⟨pa,pc,a',c',pl.length,k⟩ from rfl]
  refine MC (cO 5) qs ⟨pa,pc,a',c',pl.length,k⟩ ?_
  refine Aj<|A5 K21<|AD<|wM I I<|wM I I<|AB (Br (xs:= [sl a' (pl.length+70) c']) I Fa Yy Gi) I I I ?_
  rintro _ _ ⟨b66,rfl,rfl⟩
  refine AB (B6 (f:=LW) Tm ⟨pa,pc,a',c',pl.length,k⟩ I I Fa Fa Zz) I I I ?_
  rintro _ _ ⟨a67,cap67,rfl,rfl⟩
  refine wA I I<|AW<|A5 K19<|AD<|wM I I<|A2 (AN (j:=1) I I) I<|wA I I<|AW<|Az (K16 ⟨k+1,qs++ [⟨pa,pc,a',c',pl.length,k⟩],a67,cap67⟩ (⟨by (try dsimp only);omega,by(try dsimp only);rw [List.length_append,List.length_singleton];omega,Ve hQ (p:=⟨pa,pc,pl⟩) (by rw [hql];exact hpk) (by (try dsimp only);omega) hq1 hq2 hq3 hq4 I I I⟩) (by (try dsimp only);omega))
 try simp only [dz] at hc2
 obtain rfl:k=ps.length:=by omega
 refine Aj<|A5 K14<|A7 fun _ K27=>A4 fun _ K28=>wA I I<|A3 K28<|AG<|Ak (σ:=Nat) (fun k2=> [(9,.int .i64 ((k2:Nat):Int))]) (fun k2=> []) (fun k2=>k2<=ps.length) (fun k2=>ps.length -k2) (0) [0,5] Cw D8 ?_ ?_ Sub.refl ?_
 ·exact Nat.zero_le _
 ·(try dsimp only);exact(Wk.cons Ch Wk.nil)
 rintro k2 hk2 K29 K29
 simp only [List.cons_append,List.nil_append]
 refine A7 fun _ K30=>A4 fun _ K31=>wM I I<|wM I I<|A2 (Al I I Fa) I ?_
 refine A2 (An I I) I<|A3 K31<|AH I (fun hc4=>?_) (fun hc4=>?_)
 ·try simp only [dz] at hc4
  refine Cd (a:=go) Bf (by omega) (fun gb hgb hcg=>?_)
  subst hgb
  obtain⟨q,hq⟩: ∃q,qs[k2]? =some q:=⟨_,List.getElem?_eq_getElem (by omega)⟩
  obtain⟨hqj,hqa,hqc,hqn,hqm,⟨qa,qcp,ql⟩,hpk,hea,hec,hel⟩:=hQ k2 q hq
  dsimp only at hea hec hel
  have hpb:=hb _ (List.mem_of_getElem? hpk)
  dsimp only at hpb
  have hsn:=Sv.star (F:=cO 5) k2 hq (ay (T:=5) hqa hqc)
  have hse:=Sv.star (F:=cO 5) k2 hq (az (T:=5) hqn hqm)
  rw [hqj] at hsn hse
  have hse':=hse
  rw [hea,hec,hel] at hse'
  refine AA<|A5 K30<|A7 fun _ K32=>AG<|A4 fun _ K33=>wA I I<|A3 K33<|AG<|Ak (σ:=Nat) (fun i2=> [(10,.int .i64 ((i2:Nat):Int))]) (fun i2=> []) (fun i2=>i2<=q.n+70) (fun i2=>q.n+70 -i2) (0) [0,5,9,68,69,70,71,72,73] Cw D8 ?_ ?_ Sub.refl ?_
  ·exact Nat.zero_le _
  ·(try dsimp only);exact(Wk.cons Ch Wk.nil)
  rintro i2 hi2 K34 K34
  simp only [List.cons_append,List.nil_append]
  refine A7 fun _ K35=>A4 fun _ K36=>wM I I<|wM I I<|wM I I<|A2 (AT k2 I I Fa Gi (hi:=by omega)) I ?_
  refine A2 (AU (f:=LW) (i:=k2) (j:=0) I Bg (hl:=hq)) I ?_
  refine A2 (BA I I BQ) I<|A2 (An I I) I<|A3 K36<|AH I (fun hc5=>?_) (fun hc5=>?_)
  ·try simp only [dz] at hc5
   refine AA<|A5 K35<|A7 fun _ K37=>AG<|A4 fun _ K38=>wM I I<|A2 (AN (j:=1) I I) I<|wM I I<|AB (AE Y8 I (hs:=KC (k:=k2+1) (i:=i2))) I I I ?_
   rintro _ _ ⟨⟨⟩,rfl,hA⟩
   simp only [ca] at hA
   subst hA
   refine wA I I<|A3 K38<|A4 fun _ K39=>wM I I<|wM I I<|A2 (AT k2 I I Fa Gi (hi:=by omega)) I ?_
   refine A2 (AU (f:=LW) (i:=k2) (j:=0) I Bg (hl:=hq)) I ?_
   refine wM I I<|A2 (AO i2 I I BQ Ki (hA:=hsn) (hi:=by rw [BL];omega)) I ?_
   refine A2 (Af (i:=i2) (j:=0) I Vq (hA:=hsn) (hl:=G8 (by omega))) I ?_
   refine wM I I<|A2 (HI (GZ I I)) I ?_
   refine wM I I<|wM I I<|wM I I<|wM I I<|A2 (AO k2 I I Fa Gi (hA:=hS) (hi:=by omega)) I ?_
   refine A2 (Af (i:=k2) (j:=0) (u:=sl qa ql.length qcp) I Bg (hA:=hS) (hl:=hpk)) I ?_
   refine A2 (BA I I BQ) I<|A2 (An I I) I<|wM I I<|Ae 104 I (fun hg40=>?_) (fun hg40=>?_)
   ·try simp only [dz] at hg40
    refine wM I I<|wM I I<|A2 (AO k2 I I Fa Gi (hA:=hS) (hi:=by omega)) I ?_
    refine A2 (Af (i:=k2) (j:=0) (u:=sl qa ql.length qcp) I Bg (hA:=hS) (hl:=hpk)) I ?_
    refine wM I I<|A2 (AO i2 I I BQ Ki (hA:=hse') (hi:=by rw [BL];omega)) I ?_
    refine A2 (Af (i:=i2) (j:=0) I Vq (hA:=hse') (hl:=G8 (by omega))) I ?_
    refine wM I I<|A2 (HI (GZ I I)) I ?_
    refine A2 (AC I I) I<|A2 (A8 I I) I<|A3 K39<|AM I<|AA<|A5 K37<|AD<|wM I I<|A2 (AN (j:=1) I I) I<|wA I I<|AW<|Az (K34 (i2+1) (by omega) (by omega))
   try simp only [dz] at hg40
   refine wK I<|wK I<|wK I<|wK I<|wK I<|wK I<|wK I<|wK I<|wK I<|A2 (A8 I I) I<|A2 (A8 I I) I<|A3 K39<|AM I<|AA<|A5 K37 ?_
   refine AD<|wM I I<|A2 (AN (j:=1) I I) I<|wA I I<|AW<|Az (K34 (i2+1) (by omega) (by omega))
  try simp only [dz] at hc5
  refine Aj<|A5 K32<|AD<|wM I I<|A2 (AN (j:=1) I I) I<|wA I I<|AW<|Az (K29 (k2+1) (by omega) (by omega))
 try simp only [dz] at hc4
 refine Aj<|A5 K27<|A4 fun _ K41=>wA I I<|A3 K41<|AK ?_
 exact hret.gf () (BR rfl rfl)
end Go.Proofs.YtoakfknnaiapiaaGreat
namespace Go.Proofs.YtoakfknnaiapiaaGreat
open Go.RowKit Go.SL Go.ShM Go.SvM
set_option maxHeartbeats 1000000
set_option maxRecDepth 20000
set_option linter.all false
theorem e7:DF Tryz.prog 34=true:=by kernel_rfl
theorem dQ:el Tryz.prog 79=some (1,24):=by kernel_rfl
theorem HM:Tryz.prog.underlying 36=some (.slice 79):=by kernel_rfl
theorem Rw:zr Tryz.prog 79=some [.slice none 0 0]:=by kernel_rfl
theorem X3{k i:Nat}(hk:k<=10000000000:=by omega)(hi:i<=10000000000000:=by omega):Ct Tryz.prog 34 [.int .i64 ((k:Nat):Int),.int .i64 ((i:Nat):Int)] [] (fun _:Unit=>.int .i64 ((1000003*(k+1)+i:Nat):Int)) (fun _=> []):=by
 refine AY (n:=10) Tryz.func34 I I I fun F w0 Q hret hnorm hp=>?_
 change WC _ _ _ _ _ _ _ (F)
 refine A4 fun _ K1=>wA I I<|A3 K1<|A4 fun _ K2=>wM I I<|A2 (AN (j:=1) I I) I<|A2 (ET (i:=1000003) I I) I ?_
 refine wM I I<|A2 (AN I I) I<|wA I I<|A3 K2<|AK ?_
 exact hret.gf () (BR rfl rfl)

theorem Kq{k i:Nat}(hk:k<=10000000000:=by omega)(hi:i<=10000000000000:=by omega):Ct Tryz.prog 34 [.int .i64 ((k:Nat):Int),.int .i64 ((i:Nat):Int)] [] (fun _:Unit=>.int .i64 (mI k i)) (fun _=> []):=X3
theorem VM{X:Ao}{v:Value}{ps:List PI}{ao:Option Addr}{cap:Nat}(hS:Sv [X] v 1 No ps ao cap:=by assumption)(hn:ps.length<=100000000:=by omega)(hb: ∀p∈ps,p.l.length<=900000000000:=by assumption):Ct Tryz.prog 8 [v] [X,star (FP 3) ps] (fun _:Unit=>.bool true) (fun _=> [X]):=by
 refine AY (n:=116) Tryz.func8 I I I fun F w0 Q hret hnorm hp=>?_
 change WC _ _ _ _ _ _ _ (_::_::F)
 refine A4 fun _ K1=>wA I I<|A3 K1<|A7 fun _ K2=>A4 fun _ K3=>wA I I<|A3 K3<|AG ?_
 rw [show star (FP 3) ps=star (FP 3) (Pw ps 0) from by rw [fK]]
 refine Ak (σ:=Nat) (fun k=> [(3,.int .i64 ((k:Nat):Int))]) (fun k=> [star (FP 3) (Pw ps k)]) (fun k=>k<=ps.length) (fun k=>ps.length -k) (0) [0,2,5,6,7,8,9,10,11,37,38,39,40,41,42,43,44,45,46,47,48,49,50,51,52,53,54,55,56,57,58,59,60,61,62,63,64,65,66,67,68,69,70,71,72,73,74,75,76,77,78,79,80,81,82,83,84,85,86,87,88,89,90,91,92,93,94,95,96,97,98,99,100,101,102,103,104,105,106,107,108,109,110,111,112,113,114,115] Cw D8 ?_ ?_ Sub.refl ?_
 ·exact Nat.zero_le _
 ·(try dsimp only);exact(Wk.cons Ch Wk.nil)
 rintro k hk K4 K4
 simp only [List.cons_append,List.nil_append]
 refine A7 fun _ K5=>A4 fun _ K6=>wM I I<|wM I I<|A2 (Al I I HM) I ?_
 refine A2 (An I I) I<|A3 K6<|AH I (fun hc0=>?_) (fun hc0=>?_)
 ·try simp only [dz] at hc0
  obtain⟨⟨pa,pc,pl⟩,hpk⟩: ∃p,ps[k]? =some p:=⟨_,List.getElem?_eq_getElem (by omega)⟩
  have hpb:=hb _ (List.mem_of_getElem? hpk)
  dsimp only at hpb
  refine ME (FP 3) (Pw ps k) k (x:=⟨pa,pc,pl⟩) (by rw [SV hpk,if_neg (by omega)]) ?_
  rw [show FP 3 ⟨pa,pc,pl⟩=Aa pa pc 1 3 (Hz .i64) pl from rfl]
  refine AA<|A5 K5<|A7 fun _ K7=>AG<|A4 fun _ K8=>wA I I<|A3 K8<|AG ?_
  rw [show Aa pa pc 1 3 (Hz .i64) pl=Aa pa pc 1 3 (Hz .i64) (Nm (mI (k+1)) pl 0) from by rw [O0]]
  refine Ak (σ:=Nat) (fun i'=> [(4,.int .i64 ((i':Nat):Int))]) (fun i'=> [Aa pa pc 1 3 (Hz .i64) (Nm (mI (k+1)) pl i')]) (fun i'=>i'<=pl.length) (fun i'=>pl.length -i') (0) [0,2,3,5,6,7,8,9,10,11,12,13,14,15,16,17,37,38,39,40,41,42,43,44,45,46,47,48,49,50,51,52,53,54,55,56,57,58,59,60,61,62,63,64,65,66,67,68,69,70,71,72,73,74,75,76,77,78,79,80,81,82,83,84,85,86,87,88,89,90,91,92,93,94,95,96,97,98,99,100,101,102,103,104,105,106,107,108,109,110,111,112,113,114,115] Cw D8 ?_ ?_ Sub.refl ?_
  ·exact Nat.zero_le _
  ·(try dsimp only);exact(Wk.cons Ch Wk.nil)
  rintro i' hi K9 K9
  simp only [List.cons_append,List.nil_append]
  have hol:=J0 (mI (k+1)) hi
  refine A7 fun _ K10=>A4 fun _ K11=>wM I I<|wM I I<|wM I I<|A2 (AO k I I HM IL (hA:=hS) (hi:=by omega)) I ?_
  refine A2 (Af (i:=k) (j:=0) (u:=sl pa pl.length pc) I Gw (hA:=hS) (hl:=hpk)) I ?_
  refine A2 (BA I I Dv) I<|A2 (An I I) I<|A3 K11<|AH I (fun hc1=>?_) (fun hc1=>?_)
  ·try simp only [dz] at hc1
   refine Cd (a:=pa) Bf (by omega) (fun gb hgb hcp=>?_)
   subst hgb
   refine AA<|A5 K10<|A7 fun _ K12=>AG<|Am CE (fun i=>([2,2,2,2,2,2,2,2,1,2,0]:List Nat).getD i 0) ?_
   refine jM 0 I I I hp<|jM 1 I I I hp<|jP 2 I (AO k I I HM IL (hA:=hS) (hi:=by omega)) I hp ?_
   refine jT 3 I (Af (i:=k) (j:=0) (u:=sl (some gb) pl.length pc) I Gw (hA:=hS) (hl:=hpk)) I hp AQ ?_
   refine jM 4 I I I hp<|jM 5 I I I hp<|jP 6 I (AN (j:=1) I I) I hp<|jM 7 I I I hp<|jO 8<|B7 I (AE e7 I (hs:=Kq (k:=k+1) (i:=i'))) I I I I ?_
   rintro _ _ ⟨⟨⟩,rfl,hA⟩
   simp only [ca] at hA
   subst hA
   refine⟨(fun _=>Bh),?_⟩
   refine jP 9 I (AT _ I I Dv Fw) I hp ?_
   refine jO 10<|EN I (Aq (mI (k+1) i') I I Fw (j:=0) (i:=i') (hl:=at_Z (by omega))) I ?_
   rintro _ _ rfl
   rw [Iz (mI (k+1)) (by omega)]
   refine jD<|A5 K12<|AD<|wM I I<|A2 (AN (j:=1) I I) I<|wA I I<|AW<|Az (K9 (i'+1) (by omega) (by omega))
  try simp only [dz] at hc1
  obtain rfl:i'=pl.length:=by omega
  rw [J1]
  rw [show Aa pa pc 1 3 (Hz .i64) (D9 (mI (k+1)) 0 pl.length)=FP 3 (bX k ⟨pa,pc,pl⟩) from rfl]
  refine MD (FP 3) (Pw ps k) k (bX k ⟨pa,pc,pl⟩) (by rw [TM];omega) ?_
  rw [ZV hpk]
  refine Aj<|A5 K7<|AD<|wM I I<|A2 (AN (j:=1) I I) I<|wA I I<|AW<|Az (K4 (k+1) (by omega) (by omega))
 try simp only [dz] at hc0
 obtain rfl:k=ps.length:=by omega
 rw [show star (FP 3) (Pw ps ps.length)=star (FP 3) ((Pw ps ps.length).drop 0) from rfl]
 refine Cz (fun w h=>BO (e:=1) (T:=79) (f:=LW) h) ?_
 refine Aj<|A5 K2<|A4 fun _ K13=>A2 (Ag (v:=sl none 0 0) I) I<|CJ LW 1 79 ?_
 refine A3 K13<|A7 fun _ K14=>A4 fun _ K15=>wA I I<|A3 K15<|AG<|Gq (FQ 3) ?_
 refine Ak (σ:=Nat × (List QI) × (Option Nat) × Nat) (fun ⟨k,qs,go,gc⟩=> [(5,sl go qs.length gc),(6,.int .i64 ((k:Nat):Int))]) (fun ⟨k,qs,go,gc⟩=> [star (FQ 3) qs,star (FP 3) ((Pw ps ps.length).drop k),Aa go gc 1 79 LW qs]) (fun ⟨k,qs,go,gc⟩=>k<=ps.length/\qs.length=k/\gj ps qs) (fun ⟨k,qs,go,gc⟩=>ps.length -k) ⟨0,[],none,0⟩ [0,2,9,10,11,68,69,70,71,72,73,74,75,76,77,78,79,80,81,82,83,84,85,86,87,88,89,90,91,92,93,94,95,96,97,98,99,100,101,102,103,104,105,106,107,108,109,110,111,112,113,114,115] Cw D8 ?_ ?_ Sub.refl ?_
 ·exact⟨Nat.zero_le _,rfl,bJ⟩
 ·(try dsimp only);exact(Wk.cons Ch (Wk.cons Ch Wk.nil))
 rintro⟨k,qs,go,gc⟩ ⟨hk,hql,hQ⟩ K16 K16
 simp only [List.cons_append,List.nil_append]
 refine A7 fun _ K17=>A4 fun _ K18=>wM I I<|wM I I<|A2 (Al I I HM) I ?_
 refine A2 (An I I) I<|A3 K18<|AH I (fun hc2=>?_) (fun hc2=>?_)
 ·try simp only [dz] at hc2
  obtain⟨⟨pa,pc,pl⟩,hpk⟩: ∃p,ps[k]? =some p:=⟨_,List.getElem?_eq_getElem (by omega)⟩
  have hpb:=hb _ (List.mem_of_getElem? hpk)
  dsimp only at hpb
  refine MF (FP 3) (Pw ps ps.length) k (x:=bX k ⟨pa,pc,pl⟩) (ZW hpk) ?_
  rw [show FP 3 (bX k ⟨pa,pc,pl⟩)=Aa pa pc 1 3 (Hz .i64) (D9 (mI (k+1)) 0 pl.length) from rfl]
  refine Bu (fun w h=>B1 (a:=pa) (cap:=pc) (e:=1) (T:=3) (f:=Hz .i64) (l:=D9 (mI (k+1)) 0 pl.length) Bf h) (fun hpf=>?_)
  rw [BL] at hpf
  refine Cz (fun w h=>JA h) ?_
  refine AA<|A5 K17<|A7 fun _ K19=>AG<|A4 fun _ K20=>wM I I<|wM I I<|A2 (AO k I I HM IL (hA:=hS) (hi:=by omega)) I ?_
  refine A2 (Af (i:=k) (j:=0) (u:=sl pa pl.length pc) I Gw (hA:=hS) (hl:=hpk)) I ?_
  refine wA I I<|A3 K20<|A7 fun _ K21=>A4 fun _ K22=>wA I I<|A3 K22<|AG ?_
  rw [show Jr pa pc pa pc 1 3 (Hz .i64) (D9 (mI (k+1)) 0 pl.length) (D9 (mI (k+1)) 0 pl.length)=Jr pa pc pa pc 1 3 (Hz .i64) (D9 (mI (k+1)) 0 pl.length) (D9 (mI (k+1)) 0 (pl.length+0)) from rfl]
  refine Ak (σ:=Nat × (Option Nat) × Nat) (fun ⟨i',a',c'⟩=> [(7,sl a' (pl.length+i') c'),(8,.int .i64 ((i':Nat):Int))]) (fun ⟨i',a',c'⟩=> [Jr pa pc a' c' 1 3 (Hz .i64) (D9 (mI (k+1)) 0 pl.length) (D9 (mI (k+1)) 0 (pl.length+i'))]) (fun ⟨i',a',c'⟩=>i'<=70) (fun ⟨i',a',c'⟩=>70 -i') ⟨0,pa,pc⟩ [0,2,5,6,9,10,11,37,38,39,40,41,42,43,44,45,46,64,65,66,67,68,69,70,71,72,73,74,75,76,77,78,79,80,81,82,83,84,85,86,87,88,89,90,91,92,93,94,95,96,97,98,99,100,101,102,103,104,105,106,107,108,109,110,111,112,113,114,115] Cw D8 ?_ ?_ Sub.refl ?_
  ·exact Nat.zero_le _
  ·(try dsimp only);exact(Wk.cons Ch (Wk.cons Ch Wk.nil))
  rintro⟨i',a',c'⟩ hi K23 K23
  simp only [List.cons_append,List.nil_append]
  have hml:=BL (mI (k+1)) 0 (pl.length+i')
  refine A7 fun _ K24=>A4 fun _ K25=>wM I I<|A2 (An (j:=70) I I) I<|A3 K25<|AH I (fun hc3=>?_) (fun hc3=>?_)
  ·try simp only [dz] at hc3
   refine AA<|A5 K24<|A7 fun _ K26=>AG<|AD<|wM I I<|wM I I<|A2 (AN (j:=1) I I) I<|wM I I<|wM I I<|A2 (AO k I I HM IL (hA:=hS) (hi:=by omega)) I ?_
   refine A2 (Af (i:=k) (j:=0) (u:=sl pa pl.length pc) I Gw (hA:=hS) (hl:=hpk)) I ?_
   refine A2 (BA I I Dv) I<|wM I I<|A2 (AN I I) I<|AB (AE e7 I (hs:=Kq (k:=k+1) (i:=pl.length+i'))) I I I ?_
   rintro _ _ ⟨⟨⟩,rfl,hA⟩
   simp only [ca] at hA
   subst hA
   refine AB (Br (xs:=Hz .i64 (mI (k+1) (pl.length+i'))) I Dv UA Fw) I I I ?_
   rintro _ _ ⟨b62,rfl,rfl⟩
   refine AB (MI (l:=D9 (mI (k+1)) 0 pl.length) (l':=D9 (mI (k+1)) 0 (pl.length+i')) dN (mI (k+1) (pl.length+i')) I I Dv Dv dS (Hr _ _ _) (hlen:=by rw [BL])) I I I ?_
   rintro _ _ ⟨a63,cap63,rfl,rfl⟩
   rw [BL,Lp,Nat.add_assoc]
   refine wA I I<|AW<|A5 K26<|AD<|wM I I<|A2 (AN (j:=1) I I) I<|wA I I<|AW<|Az (K23 ⟨i'+1,a63,cap63⟩ (by dsimp only;omega) (by dsimp only;omega))
  try simp only [dz] at hc3
  obtain rfl:i'=70:=by omega
  refine Bu (fun w h=>I0 (a:=pa) (cap:=pc) (a':=a') (cap':=c') (e:=1) (T:=3) (f:=Hz .i64) (l:=D9 (mI (k+1)) 0 pl.length) (l':=D9 (mI (k+1)) 0 (pl.length+70)) h) (fun hqf=>?_)
  rw [BL] at hqf
  have hq1:a'≠none:=fun e=>by have:=congrArg List.length (hqf.1 e);rw [BL] at this;simp at this
  have hq2:pl.length+70<=c':=hqf.2
  have hq3:pa=none ->pl.length=0:=fun e=>by have:=congrArg List.length (hpf.1 e);rw [BL] at this;exact this
  have hq4:pl.length<=pc:=hpf.2
  rw [show Jr pa pc a' c' 1 3 (Hz .i64) (D9 (mI (k+1)) 0 pl.length) (D9 (mI (k+1)) 0 (pl.length+70))=FQ 3 ⟨pa,pc,a',c',pl.length,k⟩ from rfl]
  refine MC (FQ 3) qs ⟨pa,pc,a',c',pl.length,k⟩ ?_
  refine Aj<|A5 K21<|AD<|wM I I<|wM I I<|AB (Br (xs:= [sl a' (pl.length+70) c']) I HM Rw IL) I I I ?_
  rintro _ _ ⟨b66,rfl,rfl⟩
  refine AB (B6 (f:=LW) Tm ⟨pa,pc,a',c',pl.length,k⟩ I I HM HM dQ) I I I ?_
  rintro _ _ ⟨a67,cap67,rfl,rfl⟩
  refine wA I I<|AW<|A5 K19<|AD<|wM I I<|A2 (AN (j:=1) I I) I<|wA I I<|AW<|Az (K16 ⟨k+1,qs++ [⟨pa,pc,a',c',pl.length,k⟩],a67,cap67⟩ (⟨by (try dsimp only);omega,by(try dsimp only);rw [List.length_append,List.length_singleton];omega,Ym hQ (p:=⟨pa,pc,pl⟩) (by rw [hql];exact hpk) (by (try dsimp only);omega) hq1 hq2 hq3 hq4 I I I⟩) (by (try dsimp only);omega))
 try simp only [dz] at hc2
 obtain rfl:k=ps.length:=by omega
 refine Aj<|A5 K14<|A7 fun _ K27=>A4 fun _ K28=>wA I I<|A3 K28<|AG<|Ak (σ:=Nat) (fun k2=> [(9,.int .i64 ((k2:Nat):Int))]) (fun k2=> []) (fun k2=>k2<=ps.length) (fun k2=>ps.length -k2) (0) [0,5] Cw D8 ?_ ?_ Sub.refl ?_
 ·exact Nat.zero_le _
 ·(try dsimp only);exact(Wk.cons Ch Wk.nil)
 rintro k2 hk2 K29 K29
 simp only [List.cons_append,List.nil_append]
 refine A7 fun _ K30=>A4 fun _ K31=>wM I I<|wM I I<|A2 (Al I I HM) I ?_
 refine A2 (An I I) I<|A3 K31<|AH I (fun hc4=>?_) (fun hc4=>?_)
 ·try simp only [dz] at hc4
  refine Cd (a:=go) Bf (by omega) (fun gb hgb hcg=>?_)
  subst hgb
  obtain⟨q,hq⟩: ∃q,qs[k2]? =some q:=⟨_,List.getElem?_eq_getElem (by omega)⟩
  obtain⟨hqj,hqa,hqc,hqn,hqm,⟨qa,qcp,ql⟩,hpk,hea,hec,hel⟩:=hQ k2 q hq
  dsimp only at hea hec hel
  have hpb:=hb _ (List.mem_of_getElem? hpk)
  dsimp only at hpb
  have hsn:=Sv.star (F:=FQ 3) k2 hq (eP (T:=3) hqa hqc)
  have hse:=Sv.star (F:=FQ 3) k2 hq (eQ (T:=3) hqn hqm)
  rw [hqj] at hsn hse
  have hse':=hse
  rw [hea,hec,hel] at hse'
  refine AA<|A5 K30<|A7 fun _ K32=>AG<|A4 fun _ K33=>wA I I<|A3 K33<|AG<|Ak (σ:=Nat) (fun i2=> [(10,.int .i64 ((i2:Nat):Int))]) (fun i2=> []) (fun i2=>i2<=q.n+70) (fun i2=>q.n+70 -i2) (0) [0,5,9,68,69,70,71,72,73] Cw D8 ?_ ?_ Sub.refl ?_
  ·exact Nat.zero_le _
  ·(try dsimp only);exact(Wk.cons Ch Wk.nil)
  rintro i2 hi2 K34 K34
  simp only [List.cons_append,List.nil_append]
  refine A7 fun _ K35=>A4 fun _ K36=>wM I I<|wM I I<|wM I I<|A2 (AT k2 I I HM IL (hi:=by omega)) I ?_
  refine A2 (AU (f:=LW) (i:=k2) (j:=0) I Gw (hl:=hq)) I ?_
  refine A2 (BA I I Dv) I<|A2 (An I I) I<|A3 K36<|AH I (fun hc5=>?_) (fun hc5=>?_)
  ·try simp only [dz] at hc5
   refine AA<|A5 K35<|A7 fun _ K37=>AG<|A4 fun _ K38=>wM I I<|A2 (AN (j:=1) I I) I<|wM I I<|AB (AE e7 I (hs:=Kq (k:=k2+1) (i:=i2))) I I I ?_
   rintro _ _ ⟨⟨⟩,rfl,hA⟩
   simp only [ca] at hA
   subst hA
   refine wA I I<|A3 K38<|A4 fun _ K39=>wM I I<|wM I I<|A2 (AT k2 I I HM IL (hi:=by omega)) I ?_
   refine A2 (AU (f:=LW) (i:=k2) (j:=0) I Gw (hl:=hq)) I ?_
   refine wM I I<|A2 (AO i2 I I Dv Fw (hA:=hsn) (hi:=by rw [BL];omega)) I ?_
   refine A2 (Af (i:=i2) (j:=0) I BF (hA:=hsn) (hl:=G8 (by omega))) I ?_
   refine wM I I<|A2 (HI (Dy I I)) I ?_
   refine wM I I<|wM I I<|wM I I<|wM I I<|A2 (AO k2 I I HM IL (hA:=hS) (hi:=by omega)) I ?_
   refine A2 (Af (i:=k2) (j:=0) (u:=sl qa ql.length qcp) I Gw (hA:=hS) (hl:=hpk)) I ?_
   refine A2 (BA I I Dv) I<|A2 (An I I) I<|wM I I<|Ae 104 I (fun hg40=>?_) (fun hg40=>?_)
   ·try simp only [dz] at hg40
    refine wM I I<|wM I I<|A2 (AO k2 I I HM IL (hA:=hS) (hi:=by omega)) I ?_
    refine A2 (Af (i:=k2) (j:=0) (u:=sl qa ql.length qcp) I Gw (hA:=hS) (hl:=hpk)) I ?_
    refine wM I I<|A2 (AO i2 I I Dv Fw (hA:=hse') (hi:=by rw [BL];omega)) I ?_
    refine A2 (Af (i:=i2) (j:=0) I BF (hA:=hse') (hl:=G8 (by omega))) I ?_
    refine wM I I<|A2 (HI (Dy I I)) I ?_
    refine A2 (AC I I) I<|A2 (A8 I I) I<|A3 K39<|AM I<|AA<|A5 K37<|AD<|wM I I<|A2 (AN (j:=1) I I) I<|wA I I<|AW<|Az (K34 (i2+1) (by omega) (by omega))
   try simp only [dz] at hg40
   refine wK I<|wK I<|wK I<|wK I<|wK I<|wK I<|wK I<|wK I<|wK I<|A2 (A8 I I) I<|A2 (A8 I I) I<|A3 K39<|AM I<|AA<|A5 K37 ?_
   refine AD<|wM I I<|A2 (AN (j:=1) I I) I<|wA I I<|AW<|Az (K34 (i2+1) (by omega) (by omega))
  try simp only [dz] at hc5
  refine Aj<|A5 K32<|AD<|wM I I<|A2 (AN (j:=1) I I) I<|wA I I<|AW<|Az (K29 (k2+1) (by omega) (by omega))
 try simp only [dz] at hc4
 refine Aj<|A5 K27<|A4 fun _ K41=>wA I I<|A3 K41<|AK ?_
 exact hret.gf () (BR rfl rfl)
end Go.Proofs.YtoakfknnaiapiaaGreat
/-
 A share's bytes written anew;the numbers under an index,one by one. (Conditions:none;generic over the program.)
-/
set_option maxRecDepth 20000
namespace Go.SvM
open Go.SL Go.ShM Go.RowKit
def Kp.wb(e:Kp)(b:List B8):Kp:=⟨e.ix,e.num,b,e.ls⟩
def Lb(k:Ky)(b:List B8)(l:List Kp):List Kp:=l.map fun e=>if e.key=k then e.wb b else e
def Pv(k:Ky)(b:List B8)(l:List Kp):Int × List Kp:=
 match EF k l with
 |none=>(2,l)
 |some e=>if e.b.length=b.length then (0,Lb k b l) else (2,l)
theorem S8{k:Ky}{b:List B8}{l:List Kp}(h:EF k l=none):Pv k b l=(2,l):=by unfold Pv;rw [h]
theorem S9{k:Ky}{b:List B8}{l:List Kp}{e:Kp}(h:EF k l=some e)(q:e.b.length≠b.length):Pv k b l=(2,l):=by unfold Pv;rw [h];exact if_neg q
theorem S7{k:Ky}{b:List B8}{l:List Kp}{e:Kp}(h:EF k l=some e)(q:e.b.length=b.length):Pv k b l=(0,Lb k b l):=by unfold Pv;rw [h];exact if_pos q
theorem Oj{k:Ky}{b:List B8} : ∀ {l:List Kp},k ∉ l.map Kp.key ->Lb k b l=l
 | [],_=>rfl
 |x::r,h=>by
  rw [List.map_cons,List.mem_cons,not_or] at h
  unfold Lb
  rw [List.map_cons,if_neg (fun e=>h.1 e.symm)]
  rw [show List.map (fun e=>if e.key=k then e.wb b else e) r=Lb k b r from rfl,Oj h.2]
theorem MZ{k:Ky}{b:List B8}{A B:List Kp}{x:Kp}(h:SrtK (A++x::B))(hk:x.key=k):Lb k b (A++x::B)=A++x.wb b::B:=by
 have hnd:=h.nd
 rw [List.map_append,List.map_cons] at hnd
 have h2:=List.nodup_cons.1 ((List.perm_middle.nodup_iff).1 hnd)
 rw [List.mem_append,not_or,hk] at h2
 have hA:=Oj (b:=b) h2.1.1
 have hB:=Oj (b:=b) h2.1.2
 unfold Lb at hA hB ⊢
 rw [List.map_append,List.map_cons,if_pos hk,hA,hB]
theorem US{k:Ky}{b:List B8}{l:List Kp}(h:SrtK l):(∃A e B,l=A++e::B/\e.key=k/\e.b.length=b.length/\Pv k b l=(0,A++e.wb b::B))\/Pv k b l=(2,l):=by
 cases hf:EF k l with
 |none=>exact .inr (S8 hf)
 |some e=>
  by_cases q:e.b.length=b.length
  ·obtain⟨hm,hk⟩:=ND hf
   obtain⟨A,B,rfl⟩:=List.append_of_mem hm
   exact .inl ⟨A,e,B,rfl,hk,q,by rw [S7 hf q,MZ h hk]⟩
  ·exact .inr (S9 hf q)
theorem Wf.sp{room:Int}{s:Sv1}{k:Ky}{b:List B8}(h:Wf room s):Wf room ⟨s.tick,(Pv k b s.l).2⟩:=by
 obtain⟨tk,l⟩:=s
 rcases US (k:=k) (b:=b) h.srt with ⟨A,e,B,hl,hk,hq,hs⟩|hs
 ·simp only at hl hs ⊢
  subst hl
  rw [hs]
  have hsub: ∀y∈A++e.wb b::B,∃z∈A++e::B,y.key=z.key/\y.b.length=z.b.length/\y.ls=z.ls/\y.num=z.num:=fun y hy=>by
   rcases List.mem_append.1 hy with q|q
   ·exact⟨y,List.mem_append.2 (.inl q),rfl,rfl,rfl,rfl⟩
   ·rcases List.mem_cons.1 q with rfl|q
    ·exact⟨e,by simp,rfl,hq.symm,rfl,rfl⟩
    ·exact⟨y,by simp [q],rfl,rfl,rfl,rfl⟩
  have hkey:(A++e.wb b::B).map Kp.key=(A++e::B).map Kp.key:=by rw [List.map_append,List.map_append,List.map_cons,List.map_cons];rfl
  have hsr:SrtK (A++e.wb b::B):=by
   have h1:((A++e::B).map Kp.key).Pairwise Eh:=List.pairwise_map.2 h.srt
   rw [<-hkey] at h1
   exact List.pairwise_map.1 h1
  have hu:C0 (A++e.wb b::B)=C0 (A++e::B):=by
   rw [Fe,Fe,E1,E1,show (e.wb b).b.length=e.b.length from hq.symm]
  refine Wf.of h.rm h.tk hsr (fun y hy=>?_) (by rw [hu];exact h.used)
  obtain⟨z,hz,h1,h2,h3,h4⟩:=hsub y hy
  have hw:=h.one hz
  exact⟨by rw [h3];exact hw.ws,by rw [h4];exact hw.num,by rw [h2];exact hw.len,by rw [h3];exact hw.ls,by rw [h3];exact hw.un⟩
 ·simp only at hs ⊢
  rw [hs];exact h
theorem cw(k:Ky)(b:List B8)(l:List Kp):(Pv k b l).2.length=l.length:=by
 unfold Pv
 split
 ·rfl
 ·split
  ·unfold Lb;rw [List.length_map]
  ·rfl
theorem ZR{ix:Ix}{L:List En}(hs:SrtK (L.map En.e)){i:Nat}(hi:i<(CB ix (L.map En.e)).length): ∃A x B,L=A++x::B/\DV (ix,x.e.num) L=some x/\(CB ix (L.map En.e))[i]? =some x.e.num/\(Gr ix (L.map En.e))[i]? =some ((x.e.b.length:Nat):Int):=by
 unfold CB at hi
 rw [List.length_map] at hi
 have he:=List.getElem?_eq_getElem hi
 generalize (Nj ix (L.map En.e))[i]=e at he
 have hm:=List.mem_of_getElem? he
 unfold Nj at hm
 obtain⟨hm1,hm2⟩:=List.mem_filter.1 hm
 have hix:e.ix=ix:=of_decide_eq_true hm2
 have hf:=OH hs.nd hm1
 rw [FT] at hf
 cases hx:DV e.key L with
 |none=>rw [hx] at hf;cases hf
 |some x=>
  rw [hx] at hf
  have hxe:x.e=e:=Option.some.inj hf
  obtain⟨A,B,hL,_⟩:=Hx hx
  have hk:e.key=(ix,x.e.num):=by rw [hxe];unfold Kp.key;rw [hix]
  refine⟨A,x,B,hL,by rw [<-hk];exact hx,?_,?_⟩
  ·unfold CB;rw [List.getElem?_map,he,hxe];rfl
  ·unfold Gr;rw [List.getElem?_map,he,hxe];rfl
theorem Of(ix:Ix)(l:List Kp):(Gr ix l).length=(CB ix l).length:=by unfold Gr CB;rw [List.length_map,List.length_map]
theorem Kh{α:Type}{l:List α}{i:Nat}(h:i<=l.length):(l.take i).length=i:=by rw [List.length_take];omega
end Go.SvM
namespace Go.Proofs.YtoakfknnaiapiaaGreat
open Go.RowKit Go.SL Go.ShM Go.SvM
set_option maxHeartbeats 1000000
set_option maxRecDepth 20000
set_option linter.all false

structure VW where
 l:List B8
 ao:Option Addr
 cap:Nat
def VW.v(p:VW):Value:=.slice p.ao p.l.length p.cap

theorem QA{b m:Nat}{room tick:Int}{ix:Ix}{num:Int}{w:VW}{Y:Ao}{L:List En}(hB:Sv [Y] w.v 1 (eU .u8 (w:=8)) w.l w.ao w.cap)(hwl:w.l.length<=900000000000)(hf:DV (ix,num) L=none):Ct Tryz.prog 24 [.pointer (some ⟨b,0,none⟩),aU .u8 ix.l,.int .i64 num,w.v] [cl b 90 [.bool true,.int .i64 room,.int .i64 tick,.int .i64 (((Ap L):Nat):Int),.map (some m)],Bs m By Cc (L.map En.kp),star (Cb 102 5) L,Y] (fun _:Unit=>.int .i64 2) (fun _=> [cl b 90 [.bool true,.int .i64 room,.int .i64 tick,.int .i64 (((Ap L):Nat):Int),.map (some m)],Bs m By Cc (L.map En.kp),star (Cb 102 5) L,Y]):=by
 refine AY (n:=42) Tryz.func24 I I I fun F w0 Q hret hnorm hp=>?_
 change WC _ _ _ _ _ _ _ (_::_::_::_::F)
 have hixl:=ix.h
 refine A4 fun _ K1=>AB (Ay (xs:=ix.l.flatMap (eU .u8 (w:=8))) I I) I I I ?_
 rintro _ _ ⟨b5,rfl,rfl⟩
 refine wA I I<|A3 K1<|A7 fun _ K2=>A4 fun _ K3=>wM I I<|AB (AE RQ I (hs:=Fz (b:=b) (m:=m) (room:=room) (tick:=tick) (u:=Ap L))) I I I ?_
 rintro _ _ ⟨⟨⟩,rfl,hA⟩
 simp only [ca] at hA
 subst hA
 refine A2 (Au I) I<|A3 K3<|AM I<|AA<|A5 K2<|A7 fun _ K4=>Am CE (fun _=>2) ?_
 refine jM 0 I I I hp<|jP 1 I (A9 I) I hp<|jP 2 I (A1 I De) I hp<|jT 3 I (A6 I Fg (v:=.map (some m))) I hp AQ<|jT 4 I (AI (vs:=ix.l.flatMap (eU .u8)) I Cv (hl:=by rw [C7,hixl];exact Nat.le_refl _) (hi:=by rw [List.drop_zero];exact List.take_of_length_le (by rw [C7,hixl];exact Nat.le_refl _))) I hp AQ ?_
 refine jM 5 I I I hp<|jP 6 I (AL (v:=By (ix,num)) (Ah G0 I (hf:=DU _ _)) I) I hp ?_
 refine jT 7 I (AL (v:=.tuple #[.pointer none,.bool false]) (DT G9 I I FZ Ro) (by rw [IQ,hf];rfl)) I hp AQ ?_
 refine jM 8 I I I hp<|jP 9 I (BE I) I hp<|jP 10 I (BN I) I hp<|jP 11 I (Ag I) I hp<|jP 12 I (Ag I) I hp<|jD<|A5 K4<|A7 fun _ K5=>A4 fun _ K6=>wM I I<|A2 (Au I) I<|wM I I<|wK I<|wK I<|wK I ?_
 refine wK I<|wK I<|wK I<|wK I<|wK I<|A2 (AC I I) I<|A3 K6<|Ad I<|A4 fun _ K7=>wA I I<|A3 K7<|AK ?_
 exact hret.gf () (BR rfl rfl)

theorem UN{b m:Nat}{room tick:Int}{ix:Ix}{num:Int}{w:VW}{Y:Ao}{A B:List En}{x:En}(hB:Sv [Y] w.v 1 (eU .u8 (w:=8)) w.l w.ao w.cap)(hwl:w.l.length<=900000000000)(hf:DV (ix,num) (A++x::B)=some x)(hxl:x.e.b.length<=900000000000)(hq:x.e.b.length≠w.l.length):Ct Tryz.prog 24 [.pointer (some ⟨b,0,none⟩),aU .u8 ix.l,.int .i64 num,w.v] [cl b 90 [.bool true,.int .i64 room,.int .i64 tick,.int .i64 (((Ap (A++x::B)):Nat):Int),.map (some m)],Bs m By Cc ((A++x::B).map En.kp),star (Cb 102 5) (A++x::B),Y] (fun _:Unit=>.int .i64 2) (fun _=> [cl b 90 [.bool true,.int .i64 room,.int .i64 tick,.int .i64 (((Ap (A++x::B)):Nat):Int),.map (some m)],Bs m By Cc ((A++x::B).map En.kp),star (Cb 102 5) (A++x::B),Y]):=by
 refine AY (n:=42) Tryz.func24 I I I fun F w0 Q hret hnorm hp=>?_
 change WC _ _ _ _ _ _ _ (_::_::_::_::F)
 have hixl:=ix.h
 refine ED 102 5 A x B ?_
 refine A4 fun _ K1=>AB (Ay (xs:=ix.l.flatMap (eU .u8 (w:=8))) I I) I I I ?_
 rintro _ _ ⟨b5,rfl,rfl⟩
 refine wA I I<|A3 K1<|A7 fun _ K2=>A4 fun _ K3=>wM I I<|AB (AE RQ I (hs:=Fz (b:=b) (m:=m) (room:=room) (tick:=tick) (u:=Ap (A++x::B)))) I I I ?_
 rintro _ _ ⟨⟨⟩,rfl,hA⟩
 simp only [ca] at hA
 subst hA
 refine A2 (Au I) I<|A3 K3<|AM I<|AA<|A5 K2<|A7 fun _ K4=>Am CE (fun _=>2) ?_
 refine jM 0 I I I hp<|jP 1 I (A9 I) I hp<|jP 2 I (A1 I De) I hp<|jT 3 I (A6 I Fg (v:=.map (some m))) I hp AQ<|jT 4 I (AI (vs:=ix.l.flatMap (eU .u8)) I Cv (hl:=by rw [C7,hixl];exact Nat.le_refl _) (hi:=by rw [List.drop_zero];exact List.take_of_length_le (by rw [C7,hixl];exact Nat.le_refl _))) I hp AQ ?_
 refine jM 5 I I I hp<|jP 6 I (AL (v:=By (ix,num)) (Ah G0 I (hf:=DU _ _)) I) I hp ?_
 refine jT 7 I (AL (v:=.tuple #[.pointer (some ⟨x.p,0,none⟩),.bool true]) (DT G9 I I FZ Ro) (by rw [IQ,hf];rfl)) I hp AQ ?_
 refine jM 8 I I I hp<|jP 9 I (BE I) I hp<|jP 10 I (BN I) I hp<|jP 11 I (Ag I) I hp<|jP 12 I (Ag I) I hp<|jD<|A5 K4<|A7 fun _ K5=>A4 fun _ K6=>wM I I<|A2 (Au I) I<|wM I I<|wM I I<|A2 (A9 I) I<|A2 (A1 I El) I ?_
 refine A2 (A6 I Bg (v:=sl x.a x.e.b.length x.cap)) I<|A2 (AL (v:=.int .i64 ((x.e.b.length:Nat):Int)) (BA I I BQ) I) I<|wM I I<|A2 (AL (v:=.int .i64 ((w.l.length:Nat):Int)) (BA I I BQ) I) I<|A2 (Bj I I) I ?_
 refine A2 (A8 I I) I<|A3 K6<|AH I (fun hc1=>?_) (fun hc1=>?_)
 ·try simp only [dz] at hc1
  refine A4 fun _ K7=>wA I I<|A3 K7<|AK<|Fp 102 5 A x B ?_
  exact hret.gf () (BR rfl rfl)
 try simp only [dz] at hc1
 exfalso
 first|omega|(simp_all;done)|(simp_all;omega)

theorem UM{b m:Nat}{room tick:Int}{ix:Ix}{num:Int}{w:VW}{Y:Ao}{A B:List En}{x:En}(hB:Sv [Y] w.v 1 (eU .u8 (w:=8)) w.l w.ao w.cap)(hwl:w.l.length<=900000000000)(hf:DV (ix,num) (A++x::B)=some x)(hxl:x.e.b.length<=900000000000)(hq:x.e.b.length=w.l.length):Ct Tryz.prog 24 [.pointer (some ⟨b,0,none⟩),aU .u8 ix.l,.int .i64 num,w.v] [cl b 90 [.bool true,.int .i64 room,.int .i64 tick,.int .i64 (((Ap (A++x::B)):Nat):Int),.map (some m)],Bs m By Cc ((A++x::B).map En.kp),star (Cb 102 5) (A++x::B),Y] (fun g:Option Nat × Nat=>.int .i64 0) (fun g=> [cl b 90 [.bool true,.int .i64 room,.int .i64 tick,.int .i64 (((Ap (A++x::B)):Nat):Int),.map (some m)],Bs m By Cc ((A++(⟨⟨x.e.ix,x.e.num,w.l,x.e.ls⟩,x.p,g.1,g.2,x.m⟩:En)::B).map En.kp),star (Cb 102 5) (A++(⟨⟨x.e.ix,x.e.num,w.l,x.e.ls⟩,x.p,g.1,g.2,x.m⟩:En)::B),Y]):=by
 refine AY (n:=42) Tryz.func24 I I I fun F w0 Q hret hnorm hp=>?_
 change WC _ _ _ _ _ _ _ (_::_::_::_::F)
 have hixl:=ix.h
 refine ED 102 5 A x B ?_
 refine A4 fun _ K1=>AB (Ay (xs:=ix.l.flatMap (eU .u8 (w:=8))) I I) I I I ?_
 rintro _ _ ⟨b5,rfl,rfl⟩
 refine wA I I<|A3 K1<|A7 fun _ K2=>A4 fun _ K3=>wM I I<|AB (AE RQ I (hs:=Fz (b:=b) (m:=m) (room:=room) (tick:=tick) (u:=Ap (A++x::B)))) I I I ?_
 rintro _ _ ⟨⟨⟩,rfl,hA⟩
 simp only [ca] at hA
 subst hA
 refine A2 (Au I) I<|A3 K3<|AM I<|AA<|A5 K2<|A7 fun _ K4=>Am CE (fun _=>2) ?_
 refine jM 0 I I I hp<|jP 1 I (A9 I) I hp<|jP 2 I (A1 I De) I hp<|jT 3 I (A6 I Fg (v:=.map (some m))) I hp AQ<|jT 4 I (AI (vs:=ix.l.flatMap (eU .u8)) I Cv (hl:=by rw [C7,hixl];exact Nat.le_refl _) (hi:=by rw [List.drop_zero];exact List.take_of_length_le (by rw [C7,hixl];exact Nat.le_refl _))) I hp AQ ?_
 refine jM 5 I I I hp<|jP 6 I (AL (v:=By (ix,num)) (Ah G0 I (hf:=DU _ _)) I) I hp ?_
 refine jT 7 I (AL (v:=.tuple #[.pointer (some ⟨x.p,0,none⟩),.bool true]) (DT G9 I I FZ Ro) (by rw [IQ,hf];rfl)) I hp AQ ?_
 refine jM 8 I I I hp<|jP 9 I (BE I) I hp<|jP 10 I (BN I) I hp<|jP 11 I (Ag I) I hp<|jP 12 I (Ag I) I hp<|jD<|A5 K4<|A7 fun _ K5=>A4 fun _ K6=>wM I I<|A2 (Au I) I<|wM I I<|wM I I<|A2 (A9 I) I<|A2 (A1 I El) I ?_
 refine A2 (A6 I Bg (v:=sl x.a x.e.b.length x.cap)) I<|A2 (AL (v:=.int .i64 ((x.e.b.length:Nat):Int)) (BA I I BQ) I) I<|wM I I<|A2 (AL (v:=.int .i64 ((w.l.length:Nat):Int)) (BA I I BQ) I) I<|A2 (Bj I I) I ?_
 refine A2 (A8 I I) I<|A3 K6<|AH I (fun hc1=>?_) (fun hc1=>?_)
 ·try simp only [dz] at hc1
  exfalso
  first|omega|(simp_all;done)|(simp_all;omega)
 try simp only [dz] at hc1
 refine AA<|A5 K5<|A4 fun _ K7=>wM I I<|wM I I<|AB (AE NL I (hs:=Ef (X:=Y) (l:=w.l) (hS:=hB))) I I I ?_
 rintro _ _ ⟨⟨a39,cap39⟩,rfl,hA⟩
 simp only [ca] at hA
 subst hA
 refine A2 (A9 I) I<|A2 (A1 I El) I<|AX (Ar (ys:= [sl a39 w.l.length cap39,.map (some x.m)]) I I Gi (hr:=I)) I I ?_
 rintro _ _ rfl
 refine A3 K7<|A4 fun _ K8=>wA I I<|A3 K8<|AK<|Fp 102 5 A (⟨⟨x.e.ix,x.e.num,w.l,x.e.ls⟩,x.p,a39,cap39,x.m⟩:En) B ?_
 rw [show Bs m By Cc ((A++x::B).map En.kp)=Bs m By Cc ((A++(⟨⟨x.e.ix,x.e.num,w.l,x.e.ls⟩,x.p,a39,cap39,x.m⟩:En)::B).map En.kp) from by rw [List.map_append,List.map_append];rfl]
 exact hret.gf (a39,cap39) (BR rfl rfl)

theorem QB{p:Nat}{ka:Option Nat}{kc:Nat}{room tick:Int}{ix:Ix}{num:Int}{w:VW}{Y:Ao}{kms:List KM}(hB:Sv [Y] w.v 1 (eU .u8 (w:=8)) w.l w.ao w.cap)(hwl:w.l.length<=900000000000)(hn:kms.length<=100000000)(hf:Ed (ix,num) (kms.map KM.e)=none):Ct Tryz.prog 27 [.pointer (some ⟨p,0,none⟩),aU .u8 ix.l,.int .i64 num,w.v] [cl p 24 [.int .i64 room,.int .i64 tick,sl ka kms.length kc],Aa ka kc 19 83 BH kms,star (CQ 5 44) kms,Y] (fun _:Unit=>.int .i64 2) (fun _=> [cl p 24 [.int .i64 room,.int .i64 tick,sl ka kms.length kc],Aa ka kc 19 83 BH kms,star (CQ 5 44) kms,Y]):=by
 refine AY (n:=41) Tryz.func27 I I I fun F w0 Q hret hnorm hp=>?_
 change WC _ _ _ _ _ _ _ (_::_::_::_::F)
 refine Bu (fun w h=>B1 (a:=ka) (cap:=kc) (e:=19) (T:=83) (f:=BH) (l:=kms) Bf h) (fun hkf=>?_)
 have hV:Sv [Aa ka kc 19 83 BH kms] (sl ka kms.length kc) 19 BH kms (ka.map fun g=>⟨g,0,none⟩) kc:=BM encKM hkf.1 hkf.2
 have hixl:=ix.h
 refine A4 fun _ K1=>AB (Ay (xs:=ix.l.flatMap (eU .u8 (w:=8))) I I) I I I ?_
 rintro _ _ ⟨b5,rfl,rfl⟩
 refine wA I I<|A3 K1<|A4 fun _ K2=>wM I I<|A2 (AI (vs:=ix.l.flatMap (eU .u8)) I Cv (hl:=by rw [C7,hixl];exact Nat.le_refl _) (hi:=by rw [List.drop_zero];exact List.take_of_length_le (by rw [C7,hixl];exact Nat.le_refl _))) I ?_
 refine wM I I<|AB (AE Ii I (hs:=DX (X:=Aa ka kc 19 83 BH kms) (p:=p) (kvs:=kms.map KM.kv) (room:=room) (tick:=tick) (ix:=ix) (num:=num) (Et hV) (by rw [List.length_map];exact hn))) I I I ?_
 rintro _ _ ⟨⟨⟩,rfl,hA⟩
 simp only [ca] at hA
 subst hA
 rw [CO,hf,show GA none= -1 from rfl]
 refine wA I I<|A3 K2<|A7 fun _ K3=>A4 fun _ K4=>wM I I<|A2 (AL (v:=.bool true) (Bt (i:= -1) (j:=0) I I) (congrArg Value.bool (by decide))) I<|wM I I<|wK I<|wK I<|wK I<|wK I<|wK I<|wK I<|wK I<|wK I ?_
 refine wK I<|wK I<|wK I<|wK I<|A2 (AC I I) I<|A3 K4<|Ad I<|A4 fun _ K5=>wA I I<|A3 K5<|AK ?_
 exact hret.gf () (BR rfl rfl)

theorem UR{p:Nat}{ka:Option Nat}{kc:Nat}{room tick:Int}{ix:Ix}{num:Int}{w:VW}{Y:Ao}{A B:List KM}{k:KM}(hB:Sv [Y] w.v 1 (eU .u8 (w:=8)) w.l w.ao w.cap)(hwl:w.l.length<=900000000000)(hn:(A++k::B).length<=100000000)(hbl:k.e.b.length<=900000000000)(hf:Ed (ix,num) ((A++k::B).map KM.e)=some A.length)(hq:k.e.b.length≠w.l.length):Ct Tryz.prog 27 [.pointer (some ⟨p,0,none⟩),aU .u8 ix.l,.int .i64 num,w.v] [cl p 24 [.int .i64 room,.int .i64 tick,sl ka (A++k::B).length kc],Aa ka kc 19 83 BH (A++k::B),star (CQ 5 44) (A++k::B),Y] (fun _:Unit=>.int .i64 2) (fun _=> [cl p 24 [.int .i64 room,.int .i64 tick,sl ka (A++k::B).length kc],Aa ka kc 19 83 BH (A++k::B),star (CQ 5 44) (A++k::B),Y]):=by
 refine AY (n:=41) Tryz.func27 I I I fun F w0 Q hret hnorm hp=>?_
 change WC _ _ _ _ _ _ _ (_::_::_::_::F)
 refine Bu (fun w h=>B1 (a:=ka) (cap:=kc) (e:=19) (T:=83) (f:=BH) (l:=(A++k::B)) Bf h) (fun hkf=>?_)
 have hV:Sv [Aa ka kc 19 83 BH (A++k::B)] (sl ka (A++k::B).length kc) 19 BH (A++k::B) (ka.map fun g=>⟨g,0,none⟩) kc:=BM encKM hkf.1 hkf.2
 have hixl:=ix.h
 have hk:(A++k::B)[A.length]? =some k:=Mt A B k
 have hAl:A.length<(A++k::B).length:=by rw [List.length_append,List.length_cons];omega
 refine A4 fun _ K1=>AB (Ay (xs:=ix.l.flatMap (eU .u8 (w:=8))) I I) I I I ?_
 rintro _ _ ⟨b5,rfl,rfl⟩
 refine wA I I<|A3 K1<|A4 fun _ K2=>wM I I<|A2 (AI (vs:=ix.l.flatMap (eU .u8)) I Cv (hl:=by rw [C7,hixl];exact Nat.le_refl _) (hi:=by rw [List.drop_zero];exact List.take_of_length_le (by rw [C7,hixl];exact Nat.le_refl _))) I ?_
 refine wM I I<|AB (AE Ii I (hs:=DX (X:=Aa ka kc 19 83 BH (A++k::B)) (p:=p) (kvs:=(A++k::B).map KM.kv) (room:=room) (tick:=tick) (ix:=ix) (num:=num) (Et hV) (by rw [List.length_map];exact hn))) I I I ?_
 rintro _ _ ⟨⟨⟩,rfl,hA⟩
 simp only [ca] at hA
 subst hA
 rw [CO,hf,show GA (some A.length)=((A.length:Nat):Int) from rfl]
 refine wA I I<|A3 K2<|A7 fun _ K3=>A4 fun _ K4=>wM I I<|A2 (An (j:=0) I I) I<|wM I I<|Ae 17 I (fun hg5=>?_) (fun hg5=>?_)
 ·try simp only [dz] at hg5
  refine wK I<|wK I<|wK I<|wK I<|wK I<|wK I<|wK I<|wK I<|wK I<|wK I<|wK I<|wK I<|A2 (AC I I) I<|A3 K4<|Ad I ?_
  refine A4 fun _ K6=>wA I I<|A3 K6<|AK ?_
  exact hret.gf () (BR rfl rfl)
 try simp only [dz] at hg5
 refine wM I I<|A2 (A9 I) I<|A2 (A1 I BB) I<|A2 (A6 I CL (v:=sl ka (A++k::B).length kc)) I<|wM I I<|A2 (AO A.length I I BV C6 (hA:=hV) (hi:=by omega)) I ?_
 refine A2 (A1 I C4) I<|A2 (Af (f:=BH) (i:=A.length) (j:=17) (y:=k) I Bg (hA:=hV) (hl:=hk) (hv:=Es k)) I ?_
 refine A2 (AL (v:=.int .i64 ((k.e.b.length:Nat):Int)) (BA I I BQ) I) I<|wM I I<|A2 (AL (v:=.int .i64 ((w.l.length:Nat):Int)) (BA I I BQ) I) I<|A2 (Bj I I) I ?_
 refine A2 (A8 I I) I<|A3 K4<|AH I (fun hc0=>?_) (fun hc0=>?_)
 ·try simp only [dz] at hc0
  refine A4 fun _ K7=>wA I I<|A3 K7<|AK ?_
  exact hret.gf () (BR rfl rfl)
 try simp only [dz] at hc0
 exfalso
 first|omega|(simp_all;done)|(simp_all;omega)

theorem UQ{p:Nat}{ka:Option Nat}{kc:Nat}{room tick:Int}{ix:Ix}{num:Int}{w:VW}{Y:Ao}{A B:List KM}{k:KM}(hB:Sv [Y] w.v 1 (eU .u8 (w:=8)) w.l w.ao w.cap)(hwl:w.l.length<=900000000000)(hn:(A++k::B).length<=100000000)(hbl:k.e.b.length<=900000000000)(hf:Ed (ix,num) ((A++k::B).map KM.e)=some A.length)(hq:k.e.b.length=w.l.length):Ct Tryz.prog 27 [.pointer (some ⟨p,0,none⟩),aU .u8 ix.l,.int .i64 num,w.v] [cl p 24 [.int .i64 room,.int .i64 tick,sl ka (A++k::B).length kc],Aa ka kc 19 83 BH (A++k::B),star (CQ 5 44) (A++k::B),Y] (fun g:Option Nat × Option Nat × Nat=>.int .i64 0) (fun g=> [cl p 24 [.int .i64 room,.int .i64 tick,sl g.1 (A++(⟨⟨k.e.ix,k.e.num,w.l,k.e.ls⟩,g.2.1,g.2.2,k.la,k.lc⟩:KM)::B).length kc],Aa g.1 kc 19 83 BH (A++(⟨⟨k.e.ix,k.e.num,w.l,k.e.ls⟩,g.2.1,g.2.2,k.la,k.lc⟩:KM)::B),star (CQ 5 44) (A++(⟨⟨k.e.ix,k.e.num,w.l,k.e.ls⟩,g.2.1,g.2.2,k.la,k.lc⟩:KM)::B),Y]):=by
 refine AY (n:=41) Tryz.func27 I I I fun F w0 Q hret hnorm hp=>?_
 change WC _ _ _ _ _ _ _ (_::_::_::_::F)
 refine Bu (fun w h=>B1 (a:=ka) (cap:=kc) (e:=19) (T:=83) (f:=BH) (l:=(A++k::B)) Bf h) (fun hkf=>?_)
 have hV:Sv [Aa ka kc 19 83 BH (A++k::B)] (sl ka (A++k::B).length kc) 19 BH (A++k::B) (ka.map fun g=>⟨g,0,none⟩) kc:=BM encKM hkf.1 hkf.2
 have hixl:=ix.h
 have hk:(A++k::B)[A.length]? =some k:=Mt A B k
 have hAl:A.length<(A++k::B).length:=by rw [List.length_append,List.length_cons];omega
 refine A4 fun _ K1=>AB (Ay (xs:=ix.l.flatMap (eU .u8 (w:=8))) I I) I I I ?_
 rintro _ _ ⟨b5,rfl,rfl⟩
 refine wA I I<|A3 K1<|A4 fun _ K2=>wM I I<|A2 (AI (vs:=ix.l.flatMap (eU .u8)) I Cv (hl:=by rw [C7,hixl];exact Nat.le_refl _) (hi:=by rw [List.drop_zero];exact List.take_of_length_le (by rw [C7,hixl];exact Nat.le_refl _))) I ?_
 refine wM I I<|AB (AE Ii I (hs:=DX (X:=Aa ka kc 19 83 BH (A++k::B)) (p:=p) (kvs:=(A++k::B).map KM.kv) (room:=room) (tick:=tick) (ix:=ix) (num:=num) (Et hV) (by rw [List.length_map];exact hn))) I I I ?_
 rintro _ _ ⟨⟨⟩,rfl,hA⟩
 simp only [ca] at hA
 subst hA
 rw [CO,hf,show GA (some A.length)=((A.length:Nat):Int) from rfl]
 refine wA I I<|A3 K2<|A7 fun _ K3=>A4 fun _ K4=>wM I I<|A2 (An (j:=0) I I) I<|wM I I<|Ae 17 I (fun hg5=>?_) (fun hg5=>?_)
 ·try simp only [dz] at hg5
  refine wK I<|wK I<|wK I<|wK I<|wK I<|wK I<|wK I<|wK I<|wK I<|wK I<|wK I<|wK I<|A2 (AC I I) I<|A3 K4<|Ad I ?_
  exfalso
  first|omega|(simp_all;done)|(simp_all;omega)
 try simp only [dz] at hg5
 refine wM I I<|A2 (A9 I) I<|A2 (A1 I BB) I<|A2 (A6 I CL (v:=sl ka (A++k::B).length kc)) I<|wM I I<|A2 (AO A.length I I BV C6 (hA:=hV) (hi:=by omega)) I ?_
 refine A2 (A1 I C4) I<|A2 (Af (f:=BH) (i:=A.length) (j:=17) (y:=k) I Bg (hA:=hV) (hl:=hk) (hv:=Es k)) I ?_
 refine A2 (AL (v:=.int .i64 ((k.e.b.length:Nat):Int)) (BA I I BQ) I) I<|wM I I<|A2 (AL (v:=.int .i64 ((w.l.length:Nat):Int)) (BA I I BQ) I) I<|A2 (Bj I I) I ?_
 refine A2 (A8 I I) I<|A3 K4<|AH I (fun hc0=>?_) (fun hc0=>?_)
 ·try simp only [dz] at hc0
  exfalso
  first|omega|(simp_all;done)|(simp_all;omega)
 try simp only [dz] at hc0
 refine Cd (a:=ka) Bf (by omega) (fun gb hgb hcp=>?_)
 subst hgb
 refine Cz (fun w h=>BO (e:=1) (T:=5) (f:=(eU .u8 (w:=8))) h) ?_
 refine Hi 5 44 A k B ?_
 refine AA<|A5 K3<|A4 fun _ K6=>A2 (Ag (v:=sl none 0 0) I) I<|CJ (eU .u8 (w:=8)) 1 5 ?_
 refine A3 K6<|A7 fun _ K7=>BC CE [cl p 24 [.int .i64 room,.int .i64 tick,sl (some gb) (A++k::B).length kc]] (fun i=>([2,2,2,2,2,2,2,1,2,2,1]:List Nat).getD i 0) ?_
 refine jM 0 I I I hp<|jP 1 I (A9 I) I hp<|jP 2 I (A1 I BB) I hp<|jT 3 I (A6 I CL (v:=sl (some gb) (A++k::B).length kc)) I hp AQ<|jM 4 I I I hp<|jM 5 I I I hp<|jM 6 I I I hp<|jO 7<|B7 I (E6 (f:=(eU .u8 (w:=8))) (Em .u8) I I BQ BQ Xk (a:=none) (cap:=0) (l:= []) (l2:=w.l) (hS:=hB) (hb:=by rw [List.length_nil];omega)) I I I I ?_
 rintro _ _ ⟨a38,cap38,rfl,rfl⟩
 rw [List.nil_append,show ([]:List B8).length+w.l.length=w.l.length from Nat.zero_add _]
 refine⟨(fun _=>Bh),?_⟩
 refine jP 8 I (AT A.length I I BV C6 (hj:=by omega)) I hp ?_
 refine jP 9 I (A1 I C4) I hp<|jO 10<|Cg I (Aq (⟨⟨k.e.ix,k.e.num,w.l,k.e.ls⟩,a38,cap38,k.la,k.lc⟩:KM) I I Gi (i:=A.length) (j:=17) (hl:=hk) (hu:=N2 _ _ _ _ _)) I I I ?_
 rintro _ _ rfl
 rw [Oz]
 refine⟨(fun _=>Bh),?_⟩
 refine jD<|A5 K7<|A4 fun _ K8=>YW 5 44 A B (⟨⟨k.e.ix,k.e.num,w.l,k.e.ls⟩,a38,cap38,k.la,k.lc⟩:KM) ?_
 rw [show (A++k::B).length=(A++(⟨⟨k.e.ix,k.e.num,w.l,k.e.ls⟩,a38,cap38,k.la,k.lc⟩:KM)::B).length from by rw [List.length_append,List.length_append];rfl]
 refine wA I I<|A3 K8<|AK ?_
 exact hret.gf (some gb,a38,cap38) (BR rfl rfl)
end Go.Proofs.YtoakfknnaiapiaaGreat
namespace Go.Proofs.YtoakfknnaiapiaaGreat
open Go.RowKit Go.SL Go.ShM Go.SvM
set_option maxHeartbeats 1000000
set_option maxRecDepth 20000
set_option linter.all false

theorem UP{b:Nat}{room:Int}{s:Sv1}{ix:Ix}{num:Int}{w:VW}{Y:Ao}(hw:Wf room s)(hB:Sv [Y] w.v 1 (eU .u8 (w:=8)) w.l w.ao w.cap)(hwl:w.l.length<=900000000000):
  Ct Tryz.prog 24 [.pointer (some ⟨b,0,none⟩),(aU .u8 ix.l),.int .i64 num,w.v] [Eu 90 102 5 b room s,Y] (fun _:Unit=>.int .i64 (Pv (ix,num) w.l s.l).1) (fun _=> [Eu 90 102 5 b room ⟨s.tick,(Pv (ix,num) w.l s.l).2⟩,Y]):=
 G6 fun q hq=>by
  obtain⟨m,L⟩:=q
  obtain⟨stk,sL⟩:=s
  simp only at hq ⊢
  subst hq
  cases hf:DV (ix,num) L with
  |none=>
   rw [S8 (by rw [FT,hf];rfl)]
   exact(QA (b:=b) (m:=m) (tick:=stk) hB hwl hf).reg fun g F w z=>⟨(),rfl,GH (s:=⟨stk,L.map En.e⟩) m L rfl z⟩
  |some x=>
   obtain⟨A,B,rfl,hkey⟩:=Hx hf
   have hwx:=hw.one (show x.e∈(A++x::B).map En.e from List.mem_map.2 ⟨x,by simp,rfl⟩)
   have hxl:x.e.b.length<=900000000000:=by have:=hwx.len;omega
   by_cases hq:x.e.b.length=w.l.length
   ·rw [S7 (by rw [FT,hf];rfl) hq]
    refine(UM (b:=b) (m:=m) (tick:=stk) hB hwl hf hxl hq).reg fun g F w' z=>⟨(),rfl,?_⟩
    have e1:(A++(⟨⟨x.e.ix,x.e.num,w.l,x.e.ls⟩,x.p,g.1,g.2,x.m⟩:En)::B).map En.e=Lb (ix,num) w.l ((A++x::B).map En.e):=by
     rw [List.map_append,List.map_append,List.map_cons,List.map_cons,MZ (by have h:=hw.srt;simp only [List.map_append,List.map_cons] at h;exact h) hkey];rfl
    have e2:Ap (A++x::B)=Ap (A++(⟨⟨x.e.ix,x.e.num,w.l,x.e.ls⟩,x.p,g.1,g.2,x.m⟩:En)::B):=by rw [Cs,Cs,CZ,CZ,show ((⟨⟨x.e.ix,x.e.num,w.l,x.e.ls⟩,x.p,g.1,g.2,x.m⟩:En)).e.b.length=x.e.b.length from hq.symm]
    rw [e2] at z
    exact GH (s:=⟨stk,Lb (ix,num) w.l ((A++x::B).map En.e)⟩) m (A++(⟨⟨x.e.ix,x.e.num,w.l,x.e.ls⟩,x.p,g.1,g.2,x.m⟩:En)::B) e1 z
   ·rw [S9 (by rw [FT,hf];rfl) hq]
    exact(UN (b:=b) (m:=m) (tick:=stk) hB hwl hf hxl hq).reg fun g F w z=>⟨(),rfl,GH (s:=⟨stk,(A++x::B).map En.e⟩) m (A++x::B) rfl z⟩
theorem UO{p:Nat}{room:Int}{s:Sv1}{ix:Ix}{num:Int}{w:VW}{Y:Ao}(hw:Wf room s)(hn:s.l.length<=100000000)(hB:Sv [Y] w.v 1 (eU .u8 (w:=8)) w.l w.ao w.cap)(hwl:w.l.length<=900000000000):
  Ct Tryz.prog 27 [.pointer (some ⟨p,0,none⟩),(aU .u8 ix.l),.int .i64 num,w.v] [Du 24 83 5 44 p room s,Y] (fun _:Unit=>.int .i64 (Pv (ix,num) w.l s.l).1) (fun _=> [Du 24 83 5 44 p room ⟨s.tick,(Pv (ix,num) w.l s.l).2⟩,Y]):=
 G6 fun q hq=>by
  obtain⟨kms,ka,kc⟩:=q
  obtain⟨stk,sL⟩:=s
  simp only at hq hn ⊢
  subst hq
  have hn':kms.length<=100000000:=by rw [List.length_map] at hn;exact hn
  cases hf:Ed (ix,num) (kms.map KM.e) with
  |none=>
   rw [S8 (Hy hf)]
   exact(QB (p:=p) (tick:=stk) hB hwl hn' hf).reg fun g F w z=>⟨(),rfl,E5 (s:=⟨stk,kms.map KM.e⟩) kms ka kc rfl z⟩
  |some i=>
   obtain⟨e,he,hke,hfk⟩:=L1 hf
   obtain⟨A,k,B,rfl,rfl,rfl⟩:=Qn he
   have hwx:=hw.one (show k.e∈(A++k::B).map KM.e from List.mem_of_getElem? he)
   have hxl:k.e.b.length<=900000000000:=by have:=hwx.len;omega
   by_cases hq:k.e.b.length=w.l.length
   ·rw [S7 hfk hq]
    refine(UQ (p:=p) (tick:=stk) hB hwl hn' hxl hf hq).reg fun g F w' z=>⟨(),rfl,?_⟩
    have e1:(A++(⟨⟨k.e.ix,k.e.num,w.l,k.e.ls⟩,g.2.1,g.2.2,k.la,k.lc⟩:KM)::B).map KM.e=Lb (ix,num) w.l ((A++k::B).map KM.e):=by
     rw [List.map_append,List.map_append,List.map_cons,List.map_cons,MZ (by have h:=hw.srt;simp only [List.map_append,List.map_cons] at h;exact h) hke];rfl
    exact E5 (s:=⟨stk,Lb (ix,num) w.l ((A++k::B).map KM.e)⟩) (A++(⟨⟨k.e.ix,k.e.num,w.l,k.e.ls⟩,g.2.1,g.2.2,k.la,k.lc⟩:KM)::B) g.1 kc e1 z
   ·rw [S9 hfk hq]
    exact(UR (p:=p) (tick:=stk) hB hwl hn' hxl hf hq).reg fun g F w z=>⟨(),rfl,E5 (s:=⟨stk,(A++k::B).map KM.e⟩) (A++k::B) ka kc rfl z⟩
theorem dY{b:Nat}{room t:Int}{s s2:Sv1}{r:Rq}{Y:Ao}{rp:Rp}{er:Int}(hw:Wf room s)(hB:Sv [Y] r.b.v 1 (eU .u8 (w:=8)) r.b.l r.b.ao r.b.cap)(hn:s.l.length<=100000000)(hc:Eg room s t r=(rp,er,s2)):
  Ct Tryz.prog 51 [.pointer (some ⟨b,0,none⟩),.int .i64 t,.agg (CP r).toArray] [Eu 90 102 5 b room s,Y] (fun g:(Option Nat × Nat) × (Option Nat × Nat)=>.tuple #[.agg [.int .u8 rp.kind,sl g.1.1 rp.ns.length g.1.2,sl g.2.1 rp.bs.length g.2.2].toArray,.int .i64 er]) (fun g=> [Eu 90 102 5 b room s2,Y,Aa g.1.1 g.1.2 1 3 eI rp.ns,Aa g.2.1 g.2.2 1 5 (eU .u8 (w:=8)) rp.bs]):=
 G6 fun q hq=>(bq (b:=b) (m:=q.1) (room:=room) (tick:=s.tick) (t:=t) (L:=q.2) (r:=r) (Y:=Y) (rp:=rp) (er:=er) (s2:=s2) (by rw [hq];exact hw) hB (by rw [<-hq,List.length_map] at hn;exact hn) (by rw [hq];exact hc)).reg fun g F w h=>by
  obtain⟨⟨L,⟨na,nc⟩,⟨ba,bc⟩⟩,hL⟩:=g
  simp only [List.cons_append,List.nil_append] at h
  (try dsimp only at h)
  refine⟨((na,nc),(ba,bc)),rfl,?_⟩
  have h4:=AS (show Gv _ [cl b 90 [.bool true,.int .i64 room,.int .i64 s2.tick,.int .i64 (((Ap L):Nat):Int),.map (some q.1)],Bs q.1 By Cc (L.map En.kp),star (Cb 102 5) L] _ from Gu) h
  have h5:=GH (s:=s2) q.1 L hL h4
  exact AS (show Gv _ [Eu 90 102 5 b room s2,Y,Aa na nc 1 3 eI rp.ns,Aa ba bc 1 5 (eU .u8 (w:=8)) rp.bs] F from Gu) h5
theorem Kk{b:Nat}{room:Int}{s:Sv1}(hw:Wf room s)(hn:s.l.length<=100000000):
  Ct Tryz.prog 11 [.pointer (some ⟨b,0,none⟩)] [Eu 90 102 5 b room s] (fun g: {g:List KM × Option Nat × Nat // g.1.map KM.e=s.l} =>.agg [.int .i64 room,.int .i64 s.tick,(sl g.1.2.1 g.1.1.length g.1.2.2)].toArray) (fun g=> [Eu 90 102 5 b room s,Aa g.1.2.1 g.1.2.2 19 83 BH g.1.1,star (CQ 5 44) g.1.1]):=
 G6 fun q hq=>(WB (b:=b) (m:=q.1) (room:=room) (tick:=s.tick) (L:=q.2) (N:=1000) (by rw [hq];exact hw.srt) (by rw [hq];exact hw.num) (fun x hx=>hw.ws x.e (by rw [<-hq];exact List.mem_map.2 ⟨x,hx,rfl⟩)) (fun x hx=>by have:=(hw.ls x.e (by rw [<-hq];exact List.mem_map.2 ⟨x,hx,rfl⟩)).2;omega) (fun x hx=>hw.len x.e (by rw [<-hq];exact List.mem_map.2 ⟨x,hx,rfl⟩)) (Nat.le_refl _) UV (by rw [<-hq,List.length_map] at hn;exact hn)).reg fun g F w h=>by
  obtain⟨⟨kms,hk⟩,a,cap⟩:=g
  simp only [List.cons_append,List.nil_append] at h
  (try dsimp only at h)
  refine⟨⟨(kms,a,cap),by rw [hk];exact hq⟩,rfl,?_⟩
  have h4:=AS (show Gv _ [cl b 90 [.bool true,.int .i64 room,.int .i64 s.tick,.int .i64 (((Ap q.2):Nat):Int),.map (some q.1)],Bs q.1 By Cc (q.2.map En.kp),star (Cb 102 5) q.2] _ from Gu) h
  have h5:=GH (s:=s) q.1 q.2 hq h4
  exact AS (show Gv _ [Eu 90 102 5 b room s,Aa a cap 19 83 BH kms,star (CQ 5 44) kms] F from Gu) h5
end Go.Proofs.YtoakfknnaiapiaaGreat
namespace Go.Proofs.YtoakfknnaiapiaaGreat
open Go.RowKit Go.SL Go.ShM Go.SvM
set_option maxHeartbeats 1000000
set_option maxRecDepth 20000
set_option linter.all false
theorem cf78:DF Tryz.prog 78=true:=by kernel_rfl
theorem co{x:En} :Ct Tryz.prog 78 [.pointer (some ⟨x.p,0,none⟩)] [cl x.p 102 [sl x.a x.e.b.length x.cap,.map (some x.m)],Aa x.a x.cap 1 5 (eU .u8 (w:=8)) x.e.b,Bs x.m Dn DY x.e.ls] (fun _:Unit=>.bool true) (fun _=> [cl x.p 102 [sl x.a x.e.b.length x.cap,.map (some x.m)],Aa x.a x.cap 1 5 (eU .u8 (w:=8)) x.e.b,Bs x.m Dn DY x.e.ls]):=by
 refine AY (n:=3) Tryz.func78 I I I fun F w0 Q hret hnorm hp=>?_
 change WC _ _ _ _ _ _ _ (_::_::_::F)
 refine A4 fun _ K1=>wA I I<|A3 K1<|A4 fun _ K2=>wA I I<|A3 K2<|AK ?_
 exact hret.gf () (BR rfl rfl)

theorem Wq{b m:Nat}{room tick:Int}{L:List En}{ix:Ix}(hs:SrtK (L.map En.e))(hn:L.length<=100000000):Ct Tryz.prog 57 [.pointer (some ⟨b,0,none⟩),aU .u8 ix.l] [cl b 90 [.bool true,.int .i64 room,.int .i64 tick,.int .i64 (((Ap L):Nat):Int),.map (some m)],Bs m By Cc (L.map En.kp),star (Cb 102 5) L] (fun g:(Nat × Nat) × (Option Nat × Nat) × (Option Nat × Nat)=>.func (.func 79) #[] #[.pointer (some ⟨g.1.1,0,none⟩),.pointer (some ⟨g.1.2,0,none⟩)]) (fun g=> [cl b 90 [.bool true,.int .i64 room,.int .i64 tick,.int .i64 (((Ap L):Nat):Int),.map (some m)],Bs m By Cc (L.map En.kp),star (Cb 102 5) L,cl g.1.1 79 [sl g.2.1.1 (CB ix (L.map En.e)).length g.2.1.2],cl g.1.2 79 [sl g.2.2.1 (Gr ix (L.map En.e)).length g.2.2.2],Aa g.2.1.1 g.2.1.2 1 3 eI (CB ix (L.map En.e)),Aa g.2.2.1 g.2.2.2 1 3 eI (Gr ix (L.map En.e))]):=by
 refine AY (n:=37) Tryz.func57 I I I fun F w0 Q hret hnorm hp=>?_
 change WC _ _ _ _ _ _ _ (_::_::_::F)
 have hixl:=ix.h
 have hzl:(Gr ix (L.map En.e)).length=(CB ix (L.map En.e)).length:=Of _ _
 have hnl:(CB ix (L.map En.e)).length<=L.length:=by rw [Hq];exact Kg
 refine A4 fun _ K1=>AB (Ay (xs:=ix.l.flatMap (eU .u8 (w:=8))) I I) I I I ?_
 rintro _ _ ⟨b3,rfl,rfl⟩
 refine wA I I<|A3 K1<|A4 fun _ K2=>AB (AZ Rw) I I I ?_
 rintro _ _ ⟨b5,rfl,rfl⟩
 refine AB (AZ Rw) I I I ?_
 rintro _ _ ⟨b6,rfl,rfl⟩
 refine A3 K2<|A7 fun _ K3=>A4 fun _ K4=>wM I I<|AB (AE RQ I (hs:=Fz (b:=b) (m:=m) (room:=room) (tick:=tick) (u:=Ap L))) I I I ?_
 rintro _ _ ⟨⟨⟩,rfl,hA⟩
 simp only [ca] at hA
 subst hA
 refine A3 K4<|Ad I<|A4 fun _ K5=>wM I I<|A2 (AI (vs:=ix.l.flatMap (eU .u8)) I Cv (hl:=by rw [C7,hixl];exact Nat.le_refl _) (hi:=by rw [List.drop_zero];exact List.take_of_length_le (by rw [C7,hixl];exact Nat.le_refl _))) I ?_
 refine YV ?_
 refine AB (AE du I (hs:=MP (b:=b) (m:=m) (room:=room) (tick:=tick) (L:=L) (ix:=ix) (g:=78) (cb:= []) (X:=F7 []) (hb:=fun _=>true) cf78 (fun x=>(co (x:=x)).frame [F7 []]) hs hn)) I I I ?_
 rintro _ _ ⟨⟨a8,c8⟩,rfl,hA⟩
 simp only [ca] at hA
 subst hA
 rw [<-Hq]
 refine AX (Ar (ys:= [sl a8 (CB ix (L.map En.e)).length c8]) I I IL (hr:=I)) I I ?_
 rintro _ _ rfl
 refine A3 K5<|A4 fun _ K6=>A2 (A6 I Gw (v:=sl a8 (CB ix (L.map En.e)).length c8)) I<|A2 (BA I I Dv) I<|wM I I<|A3 K6<|AG ?_
 rw [show cl b6 79 [.slice none 0 0]=cl b6 79 [sl none 0 0] from rfl]
 refine Pi ?_
 refine Ak (σ:=Nat × (Option Nat) × Nat) (fun ⟨i,a2,c2⟩=> [(16,.int .i64 ((i:Nat):Int))]) (fun ⟨i,a2,c2⟩=> [cl b6 79 [sl a2 i c2],Aa a2 c2 1 3 eI ((Gr ix (L.map En.e)).take i)]) (fun ⟨i,a2,c2⟩=>i<=(CB ix (L.map En.e)).length) (fun ⟨i,a2,c2⟩=>(CB ix (L.map En.e)).length -i) ⟨0,none,0⟩ [0,3,4,5,6,14,15,36] Cw (by (try dsimp only);rw [show ((Gr ix (L.map En.e)).take 0)= [] from rfl];repeat (first|with_reducible exact Gv.nil|(with_reducible apply Gv.cons;· (repeat (first|with_reducible exact Ext.here|with_reducible apply Ext.there))))) ?_ ?_ Sub.refl ?_
 ·exact Nat.zero_le _
 ·(try dsimp only);exact(Wk.cons Ch Wk.nil)
 rintro⟨i,a2,c2⟩ hi K7 K7
 simp only [List.cons_append,List.nil_append]
 refine A4 fun _ K8=>A2 (An I I) I<|A3 K8<|A7 fun _ K9=>AH I (fun hc1=>?_) (fun hc1=>?_)
 ·try simp only [dz] at hc1
  obtain⟨A,x,B,hL,hf,hnb,hsz⟩:=ZR hs (show i<(CB ix (L.map En.e)).length by omega)
  refine Cd (a:=a8) Bf (by omega) (fun ga8 hga8 hcp8=>?_)
  subst hga8
  rw [show star (Cb 102 5) L=star (Cb 102 5) (A++x::B) from by rw [<-hL]]
  refine ED 102 5 A x B ?_
  refine AA<|A5 K9<|A7 fun _ K10=>AG<|A4 fun _ K11=>A2 (AT i I I Dv Fw (hj:=by omega)) I ?_
  refine A2 (AU (i:=i) (j:=0) (y:=x.e.num) I BF (hl:=hnb)) I ?_
  refine wA I I<|A3 K11<|BC CE [cl b 90 [.bool true,.int .i64 room,.int .i64 tick,.int .i64 (((Ap L):Nat):Int),.map (some m)],Bs m By Cc (L.map En.kp),cl x.p 102 [sl x.a x.e.b.length x.cap,.map (some x.m)],cl b3 41 (ix.l.flatMap (eU .u8 (w:=8))),cl b6 79 [sl a2 i c2]] (fun i=>([2,2,2,2,2,2,2,2,2,2,2,2,2,1,1,0]:List Nat).getD i 0) ?_
  refine jT 0 I (A6 I Gw (v:=sl a2 i c2)) I hp AQ<|jM 1 I I I hp<|jP 2 I (A9 I) I hp<|jP 3 I (A1 I De) I hp<|jT 4 I (A6 I Fg (v:=.map (some m))) I hp AQ<|jT 5 I (AI (vs:=ix.l.flatMap (eU .u8)) I Cv (hl:=by rw [C7,hixl];exact Nat.le_refl _) (hi:=by rw [List.drop_zero];exact List.take_of_length_le (by rw [C7,hixl];exact Nat.le_refl _))) I hp AQ ?_
  refine jM 6 I I I hp<|jP 7 I (AL (v:=By (ix,x.e.num)) (Ah G0 I (hf:=DU _ _)) I) I hp ?_
  refine jT 8 I (AL (v:=.pointer (some ⟨x.p,0,none⟩)) (EO G9 I I FZ Ro) (by rw [Mw,hf];rfl)) I hp AQ ?_
  refine jP 9 I (A9 I) I hp<|jP 10 I (A1 I El) I hp<|jT 11 I (A6 I Bg (v:=sl x.a x.e.b.length x.cap)) I hp AQ<|jP 12 I (AL (v:=.int .i64 ((x.e.b.length:Nat):Int)) (BA I I BQ) I) I hp<|jO 13<|B7 I (Br (xs:= [.int .i64 ((x.e.b.length:Nat):Int)]) I Dv UA Fw) I I I I ?_
  rintro _ _ ⟨b33,rfl,rfl⟩
  refine⟨(fun _=>Bh),?_⟩
  refine jO 14<|B7 I (B6 (f:=eI) Jl ((x.e.b.length:Nat):Int) I I Dv Dv dS (l:=((Gr ix (L.map En.e)).take i)) (hlen:=(Kh (by omega)).symm) (hb:=by rw [Kh (by omega)];omega)) I I I I ?_
  rintro _ _ ⟨a34,cap34,rfl,rfl⟩
  rw [<-BZ hsz,Kh (show i<=(Gr ix (L.map En.e)).length by omega)]
  refine⟨(fun _=>Bh),?_⟩
  refine jO 15<|EN I (Ar (ys:= [sl a34 (i+1) cap34]) I I IL (hr:=I)) I ?_
  rintro _ _ rfl
  refine jD<|A5 K10<|AD<|Jp 102 5 A x B ?_
  rw [<-hL]
  refine A2 (AN (j:=1) I I) I<|wM I I<|AW<|Az (K7 ⟨i+1,a34,cap34⟩ (by (try dsimp only);omega) (by (try dsimp only);omega))
 try simp only [dz] at hc1
 obtain rfl:i=(CB ix (L.map En.e)).length:=by omega
 rw [List.take_of_length_le (show (Gr ix (L.map En.e)).length<=(CB ix (L.map En.e)).length by omega)]
 refine Aj<|A5 K3<|A4 fun _ K12=>A2 (Cq I I) I ?_
 refine wA I I<|A3 K12<|AK ?_
 rw [show cl b6 79 [sl a2 (CB ix (L.map En.e)).length c2]=cl b6 79 [sl a2 (Gr ix (L.map En.e)).length c2] from by rw [hzl]]
 exact hret.gf ((b5,b6),(a8,c8),(a2,c2)) (BR rfl rfl)

theorem Uu{l u1 u2:Nat}{ns ss:List Int}{a1 a2:Option Nat}{c1 c2:Nat}{X:Nat ->Ao}{J:Ao}(hy: ∀(i:Nat) (n s:Int),ns[i]? =some n ->ss[i]? =some s ->Yd Tryz.prog l [.int .i64 n,.int .i64 s] [X i] (fun b:Bool=>.bool b) (fun b=> [bif b then X (i+1) else J]))(hl:ss.length=ns.length)(hn:ns.length<=100000000):Ct Tryz.prog 79 [yv l,.pointer (some ⟨u1,0,none⟩),.pointer (some ⟨u2,0,none⟩)] [cl u1 79 [sl a1 ns.length c1],cl u2 79 [sl a2 ns.length c2],Aa a1 c1 1 3 eI ns,Aa a2 c2 1 3 eI ss,X 0] (fun b:Bool=>.tuple #[]) (fun b=> [cl u1 79 [sl a1 ns.length c1],cl u2 79 [sl a2 ns.length c2],Aa a1 c1 1 3 eI ns,Aa a2 c2 1 3 eI ss,bif b then X ns.length else J]):=by
 refine AY (n:=22) Tryz.func79 I I I fun F w0 Q hret hnorm hp=>?_
 change WC _ _ _ _ _ _ _ (_::_::_::_::_::F)
 refine A4 fun _ K1=>A2 (A6 I Gw (v:=sl a1 ns.length c1)) I<|A2 (BA I I Dv) I<|wM I I<|A3 K1<|AG<|Ak (σ:=Nat) (fun i=> [(8,.int .i64 ((i:Nat):Int))]) (fun i=> [X i]) (fun i=>i<=ns.length) (fun i=>ns.length -i) (0) [0,2,6,7] Cw D8 ?_ ?_ Sub.refl ?_
 ·exact Nat.zero_le _
 ·(try dsimp only);exact(Wk.cons Ch Wk.nil)
 rintro i hi K2 K2
 simp only [List.cons_append,List.nil_append]
 refine A4 fun _ K3=>A2 (An I I) I<|A3 K3<|A7 fun _ K4=>AH I (fun hc0=>?_) (fun hc0=>?_)
 ·try simp only [dz] at hc0
  obtain⟨n,hni⟩: ∃n,ns[i]? =some n:=⟨_,List.getElem?_eq_getElem (by omega)⟩
  obtain⟨s,hsi⟩: ∃s,ss[i]? =some s:=⟨_,List.getElem?_eq_getElem (by omega)⟩
  refine Cd (a:=a1) Bf (by omega) (fun g1 hg1 hcp1=>?_)
  subst hg1
  refine Cd (a:=a2) Bf (by omega) (fun g2 hg2 hcp2=>?_)
  subst hg2
  refine AA<|A5 K4<|A7 fun _ K5=>AG<|A4 fun _ K6=>wM I I<|A2 (AT i I I Dv Fw (hj:=by omega)) I ?_
  refine A2 (AU (i:=i) (j:=0) (y:=n) I BF (hl:=hni)) I ?_
  refine wA I I<|wA I I<|A3 K6<|A4 fun _ K7=>wM I I<|wM I I<|A2 (A6 I Gw (v:=sl (some g2) ns.length c2)) I<|wM I I<|A2 (AT i I I Dv Fw (hj:=by omega)) I ?_
  refine A2 (AU (i:=i) (j:=0) (y:=s) I BF (hl:=hsi)) I ?_
  refine AB (Ni I I (hy i n s hni hsi)) I I I ?_
  rintro _ _ ⟨b',rfl,hA⟩
  simp only [ca] at hA
  subst hA
  refine A2 (Au I) I<|A3 K7<|AH I (fun hc1=>?_) (fun hc1=>?_)
  ·try simp only [dz] at hc1
   obtain rfl:b'=false:=by revert hc1;cases b' <;>simp
   simp only [cond_false]
   have hstop:True:=trivial
   refine AK ?_
   first|(have:=hstop;exact hret.go false (Ke rfl) (by simp only [List.cons_append,List.nil_append,cond_false];repeat (first|with_reducible exact Sub.refl|with_reducible exact Sub.nil|with_reducible refine Sub.cons (by repeat (first|with_reducible exact Ext.here|with_reducible apply Ext.there)) ?_|with_reducible refine Sub.tail ?_)))|exact hret.go true (Ke rfl) (by simp only [List.cons_append,List.nil_append,cond_true];repeat (first|with_reducible exact Sub.refl|with_reducible exact Sub.nil|with_reducible refine Sub.cons (by repeat (first|with_reducible exact Ext.here|with_reducible apply Ext.there)) ?_|with_reducible refine Sub.tail ?_))
  try simp only [dz] at hc1
  obtain rfl:b'=true:=by revert hc1;cases b' <;>simp
  simp only [cond_true]
  refine AA<|A5 K5<|AD<|A2 (AN (j:=1) I I) I<|wM I I<|AW<|Az (K2 (i+1) (by omega) (by omega))
 try simp only [dz] at hc0
 obtain rfl:i=ns.length:=by omega
 refine Aj ?_
 first|(have:=hstop;exact hnorm.go false (Ke rfl) (by simp only [List.cons_append,List.nil_append,cond_false];repeat (first|with_reducible exact Sub.refl|with_reducible exact Sub.nil|with_reducible refine Sub.cons (by repeat (first|with_reducible exact Ext.here|with_reducible apply Ext.there)) ?_|with_reducible refine Sub.tail ?_)))|exact hnorm.go true (Ke rfl) (by simp only [List.cons_append,List.nil_append,cond_true];repeat (first|with_reducible exact Sub.refl|with_reducible exact Sub.nil|with_reducible refine Sub.cons (by repeat (first|with_reducible exact Ext.here|with_reducible apply Ext.there)) ?_|with_reducible refine Sub.tail ?_))
end Go.Proofs.YtoakfknnaiapiaaGreat
