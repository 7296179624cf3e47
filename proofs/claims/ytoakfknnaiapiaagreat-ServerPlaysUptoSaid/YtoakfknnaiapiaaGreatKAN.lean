/-
  Contracts of functions that the claim reaches, or the logic and the plain laws that they rest on, or the row over them. (Conditions: none beyond the statement.)
-/
import Derived.Test.YtoakfknnaiapiaaGreatKAM
set_option linter.all false
namespace Go.Proofs.YtoakfknnaiapiaaGreat
open Go.RowKit Go.SL Go.ShM Go.SvM
set_option maxHeartbeats 1000000
set_option maxRecDepth 20000
set_option linter.all false

theorem Mz{X:Ao}{v:Value}{l:List Ls}{ao:Option Addr}{cap:Nat}{wh:Bv}{uu:Int}(hS:Sv [X] v 2 C9 l ao cap)(hs:SrtW l)(hl:l.length<=100000):Ct Tryz.prog 93 [v,.agg (C9 (wh,uu)).toArray] [X] (fun g:Option Nat × Nat=>sl g.1 (Bc wh uu l).length g.2) (fun g=> [X,Aa g.1 g.2 2 44 C9 (Bc wh uu l)]):=by
 refine AY (n:=99) Tryz.func93 I I I fun F w0 Q hret hnorm hp=>?_
 change WC _ _ _ _ _ _ _ (_::F)
 have hRl:=H6 wh uu l
 have hRp:1<=(Bc wh uu l).length:=List.length_pos_iff.2 hRl
 have hRn:=(My wh uu l).1
 refine A4 fun _ K1=>AB (Ay (xs:=C9 (wh,uu)) I I) I I I ?_
 rintro _ _ ⟨b3,rfl,rfl⟩
 refine A2 (Ag (v:=sl none 0 0) I) I<|A3 K1<|A4 fun _ K2=>A2 (Ag (v:=sl none 0 0) I) I<|CJ C9 2 44 ?_
 refine A3 K2<|A4 fun _ K3=>wA I I<|A3 K3<|A7 fun _ K4=>A4 fun _ K5=>wA I I<|A3 K5<|AG ?_
 rw [show cl b3 44 (C9 (wh,uu))=cl b3 44 (C9 (wh,(GK wh uu (l.take 0)))) from rfl]
 refine Ak (σ:=Nat × (Option Nat) × Nat) (fun ⟨i,a,c⟩=> [(5,sl a (E7 wh uu (l.take i)).length c),(6,.bool (decide (HH wh (l.take i)≠ []))),(7,.int .i64 ((i:Nat):Int))]) (fun ⟨i,a,c⟩=> [cl b3 44 (C9 (wh,(GK wh uu (l.take i)))),Aa a c 2 44 C9 (E7 wh uu (l.take i))]) (fun ⟨i,a,c⟩=>i<=l.length) (fun ⟨i,a,c⟩=>l.length -i) ⟨0,none,0⟩ [0,3,4,8,60,61,62,63,64,65,66,67,68,69,70,71,72,73,74,75,76,77,78,79,80,81,82,83,84,85,86,87,88,89,90,91,92,93,94,95,96,97,98] Cw (by (try dsimp only);rw [cm];repeat (first|with_reducible exact Gv.nil|(with_reducible apply Gv.cons;· (repeat (first|with_reducible exact Ext.here|with_reducible apply Ext.there))))) ?_ ?_ Sub.refl ?_
 ·exact Nat.zero_le _
 ·(try dsimp only);exact(Wk.cons Ch (Wk.cons Ch (Wk.cons Ch Wk.nil)))
 rintro⟨i,a,c⟩ hi K6 K6
 simp only [List.cons_append,List.nil_append]
 refine A7 fun _ K7=>A4 fun _ K8=>wM I I<|wM I I<|A2 (Al I I Bw (hA:=hS)) I ?_
 refine A2 (An I I) I<|A3 K8<|AH I (fun hc0=>?_) (fun hc0=>?_)
 ·try simp only [dz] at hc0
  obtain⟨y,hy⟩: ∃y,l[i]? =some y:=⟨_,List.getElem?_eq_getElem (by omega)⟩
  have hsn:=BZ hy
  have hsr:=WE hs hy
  have hol:=QQ wh uu (l.take i)
  rw [List.length_take] at hol
  refine AA<|A5 K7<|A7 fun _ K9=>AG<|A7 fun _ K10=>A7 fun _ K11=>Am CE (fun _=>2) ?_
  refine jM 0 I I I hp<|jM 1 I I I hp<|jP 2 I (AO i I I Bw DD (hA:=hS) (hi:=by omega)) I hp ?_
  refine jP 3 I (A1 I Cf) I hp<|jT 4 I (Af (f:=C9) (i:=i) (j:=0) (y:=y) I BX (hA:=hS) (hl:=hy) (hv:=I)) I hp AQ ?_
  refine jP 5 I (A1 I Cf) I hp<|jT 6 I (A6 I BX (v:=.int .u32 ((wh.toNat:Nat):Int))) I hp AQ<|jP 7 I (DL I I) I hp<|jD<|A5 K11<|AH I (fun hc1=>?_) (fun hc1=>?_)
  ·try simp only [dz] at hc1
   have hyw:y.1=wh:=by first|assumption|exact BitVec.eq_of_toNat_eq (by omega)
   refine A7 fun _ K12=>A7 fun _ K13=>Am CE (fun _=>2) ?_
   refine jM 0 I I I hp<|jM 1 I I I hp<|jP 2 I (AO i I I Bw DD (hA:=hS) (hi:=by omega)) I hp ?_
   refine jP 3 I (A1 I Bm) I hp<|jT 4 I (Af (f:=C9) (i:=i) (j:=1) (y:=y) I BF (hA:=hS) (hl:=hy) (hv:=I)) I hp AQ ?_
   refine jP 5 I (A1 I Bm) I hp<|jT 6 I (A6 I BF (v:=.int .i64 (GK wh uu (l.take i)))) I hp AQ<|jP 7 I (DI I I) I hp ?_
   refine jD<|A5 K13<|AH I (fun hc2=>?_) (fun hc2=>?_)
   ·try simp only [dz] at hc2
    skip
    refine AD<|wM I I<|wM I I<|A2 (AO i I I Bw DD (hA:=hS) (hi:=by omega)) I ?_
    refine A2 (A1 I Bm) I<|A2 (Af (f:=C9) (i:=i) (j:=1) (y:=y) I BF (hA:=hS) (hl:=hy) (hv:=I)) I ?_
    refine A2 (A1 I Bm) I<|AX (Ar (ys:=C9 (wh,y.2)) I I Fw) I I ?_
    rintro _ _ rfl
    rw [show (E7 wh uu (l.take i))=(E7 wh uu (l.take (i+1))) from by rw [hsn,Wj hsr hyw],show C9 (wh,y.2)=C9 (wh,(GK wh uu (l.take (i+1)))) from by rw [hsn,eo hyw (by omega)],show (decide (HH wh (l.take i)≠ []))=(decide (HH wh (l.take (i+1))≠ [])) from by rw [hsn,PE (by rw [hyw];exact Nat.lt_irrefl _)]]
    refine AW<|A5 K12<|Aj<|A5 K9<|AD<|wM I I<|A2 (AN (j:=1) I I) I<|wA I I<|AW<|Az (K6 ⟨i+1,a,c⟩ (by (try dsimp only);omega) (by (try dsimp only);omega))
   try simp only [dz] at hc2
   rw [show (E7 wh uu (l.take i))=(E7 wh uu (l.take (i+1))) from by rw [hsn,Wj hsr hyw],show (GK wh uu (l.take i))=(GK wh uu (l.take (i+1))) from by rw [hsn,cT (by omega)],show (decide (HH wh (l.take i)≠ []))=(decide (HH wh (l.take (i+1))≠ [])) from by rw [hsn,PE (by rw [hyw];exact Nat.lt_irrefl _)]]
   refine AA<|A5 K12<|Aj<|A5 K9<|AD<|wM I I<|A2 (AN (j:=1) I I) I<|wA I I<|AW<|Az (K6 ⟨i+1,a,c⟩ (by (try dsimp only);omega) (by (try dsimp only);omega))
  try simp only [dz] at hc1
  have hyw:y.1≠wh:=by first|assumption|(intro z;simp_all)
  refine AA<|A5 K10<|A7 fun _ K14=>A7 fun _ K15=>Am CE (fun _=>2) ?_
  refine jM 0 I I I hp<|jP 1 I (Au I) I hp<|jM 2 I I I hp<|Be 39 I (fun hg16=>?_) (fun hg16=>?_)
  ·try simp only [dz] at hg16
   have hhi:HH wh (l.take i)= []:=by first|(simpa using hg16)|(simp_all;done)
   refine jM 3 I I I hp<|jM 4 I I I hp<|jP 5 I (AO i I I Bw DD (hA:=hS) (hi:=by omega)) I hp ?_
   refine jP 6 I (A1 I Cf) I hp<|jT 7 I (Af (f:=C9) (i:=i) (j:=0) (y:=y) I BX (hA:=hS) (hl:=hy) (hv:=I)) I hp AQ ?_
   refine jP 8 I (A1 I Cf) I hp<|jT 9 I (A6 I BX (v:=.int .u32 ((wh.toNat:Nat):Int))) I hp AQ<|jP 10 I (Bz I I) I hp ?_
   refine jP 11 I (AC I I) I hp<|jD<|A5 K15<|AH I (fun hc3=>?_) (fun hc3=>?_)
   ·try simp only [dz] at hc3
    have hgt:wh.toNat<y.1.toNat:=by first|assumption|omega
    refine A4 fun _ K17=>wM I I<|A2 (AI (vs:=C9 (wh,(GK wh uu (l.take i)))) I EE) I<|AB (Br (xs:=C9 (wh,(GK wh uu (l.take i)))) I Bw I9 DD (hl:=encLs.len _)) I I I ?_
    rintro _ _ ⟨b51,rfl,rfl⟩
    refine AB (B6 (f:=C9) encLs (wh,(GK wh uu (l.take i))) I I Bw Bw Lg) I I I ?_
    rintro _ _ ⟨a52,cap52,rfl,rfl⟩
    rw [show (E7 wh uu (l.take i)).length+1=((E7 wh uu (l.take i))++ [(wh,(GK wh uu (l.take i)))]).length from by rw [List.length_append];rfl]
    have hol2:((E7 wh uu (l.take i))++ [(wh,(GK wh uu (l.take i)))]).length<=200001:=by rw [List.length_append];show _+1<=_;omega
    refine wA I I<|A3 K17<|AD<|A2 (AL (v:=.bool (decide (HH wh (l.take (i+1))≠ []))) (Ag I) (congrArg Value.bool (by rw [hsn];first|exact(decide_eq_true (Td hgt)).symm|exact decide_eq_true (Td hgt)))) I ?_
    refine AW<|A5 K14<|AD<|wM I I<|wM I I<|wM I I<|A2 (AO i I I Bw DD (hA:=hS) (hi:=by omega)) I ?_
    refine A2 (BG (f:=C9) (i:=i) (y:=y) I EE (hA:=hS) (hl:=hy)) I ?_
    refine AB (Br (xs:=C9 y) I Bw I9 DD (hl:=encLs.len _)) I I I ?_
    rintro _ _ ⟨b58,rfl,rfl⟩
    refine AB (B6 (f:=C9) encLs y I I Bw Bw Lg) I I I ?_
    rintro _ _ ⟨a59,cap59,rfl,rfl⟩
    rw [show ((E7 wh uu (l.take i))++ [(wh,(GK wh uu (l.take i)))])++ [y]=(E7 wh uu (l.take (i+1))) from by rw [hsn,TJ hgt hhi],show ((E7 wh uu (l.take i))++ [(wh,(GK wh uu (l.take i)))]).length+1=(E7 wh uu (l.take (i+1))).length from by rw [hsn,TJ hgt hhi,List.length_append (bs:= [y])];rfl,show (GK wh uu (l.take i))=(GK wh uu (l.take (i+1))) from by rw [hsn,Ob hyw]]
    refine wA I I<|AW<|A5 K9<|AD<|wM I I<|A2 (AN (j:=1) I I) I<|wA I I<|AW<|Az (K6 ⟨i+1,a59,cap59⟩ (by (try dsimp only);omega) (by (try dsimp only);omega))
   try simp only [dz] at hc3
   refine AA<|A5 K14<|AD<|wM I I<|wM I I<|wM I I<|A2 (AO i I I Bw DD (hA:=hS) (hi:=by omega)) I ?_
   refine A2 (BG (f:=C9) (i:=i) (y:=y) I EE (hA:=hS) (hl:=hy)) I ?_
   refine AB (Br (xs:=C9 y) I Bw I9 DD (hl:=encLs.len _)) I I I ?_
   rintro _ _ ⟨b58,rfl,rfl⟩
   refine AB (B6 (f:=C9) encLs y I I Bw Bw Lg) I I I ?_
   rintro _ _ ⟨a59,cap59,rfl,rfl⟩
   have hng: ¬wh.toNat<y.1.toNat:=by first|assumption|omega
   rw [show (E7 wh uu (l.take i))++ [y]=(E7 wh uu (l.take (i+1))) from by rw [hsn,Wh hyw hng hsr],show (E7 wh uu (l.take i)).length+1=(E7 wh uu (l.take (i+1))).length from by rw [hsn,Wh hyw hng hsr,List.length_append];rfl,show (GK wh uu (l.take i))=(GK wh uu (l.take (i+1))) from by rw [hsn,Ob hyw],show (decide (HH wh (l.take i)≠ []))=(decide (HH wh (l.take (i+1))≠ [])) from by rw [hsn,PE hng]]
   refine wA I I<|AW<|A5 K9<|AD<|wM I I<|A2 (AN (j:=1) I I) I<|wA I I<|AW<|Az (K6 ⟨i+1,a59,cap59⟩ (by (try dsimp only);omega) (by (try dsimp only);omega))
  try simp only [dz] at hg16
  have hhi:HH wh (l.take i)≠ []:=by first|(simpa using hg16)|(simp_all;done)
  refine jK 3 I I hp<|jK 4 I I hp<|jK 5 I I hp<|jK 6 I I hp<|jK 7 I I hp<|jK 8 I I hp<|jK 9 I I hp<|jK 10 I I hp<|jP 11 I (A8 I I) I hp<|jD<|A5 K15<|AM I<|AA<|A5 K14<|AD ?_
  refine wM I I<|wM I I<|wM I I<|A2 (AO i I I Bw DD (hA:=hS) (hi:=by omega)) I ?_
  refine A2 (BG (f:=C9) (i:=i) (y:=y) I EE (hA:=hS) (hl:=hy)) I ?_
  refine AB (Br (xs:=C9 y) I Bw I9 DD (hl:=encLs.len _)) I I I ?_
  rintro _ _ ⟨b58,rfl,rfl⟩
  refine AB (B6 (f:=C9) encLs y I I Bw Bw Lg) I I I ?_
  rintro _ _ ⟨a59,cap59,rfl,rfl⟩
  rw [show (E7 wh uu (l.take i))++ [y]=(E7 wh uu (l.take (i+1))) from by rw [hsn,Wi hyw hhi hsr],show (E7 wh uu (l.take i)).length+1=(E7 wh uu (l.take (i+1))).length from by rw [hsn,Wi hyw hhi hsr,List.length_append];rfl,show (GK wh uu (l.take i))=(GK wh uu (l.take (i+1))) from by rw [hsn,Ob hyw],show (decide (HH wh (l.take i)≠ []))=(decide (HH wh (l.take (i+1))≠ [])) from by rw [decide_eq_true hhi,hsn,decide_eq_true (Zr hhi)]]
  refine wA I I<|AW<|A5 K9<|AD<|wM I I<|A2 (AN (j:=1) I I) I<|wA I I<|AW<|Az (K6 ⟨i+1,a59,cap59⟩ (by (try dsimp only);omega) (by (try dsimp only);omega))
 try simp only [dz] at hc0
 obtain rfl:i=l.length:=by omega
 rw [List.take_length]
 have hol3:=QQ wh uu l
 refine Aj<|A5 K4<|A7 fun _ K18=>A4 fun _ K19=>wM I I<|A2 (Au I) I<|A3 K19<|AH I (fun hc4=>?_) (fun hc4=>?_)
 ·try simp only [dz] at hc4
  have hhe:HH wh l= []:=by first|(simpa using hc4)|(simp_all;done)
  refine AD<|wM I I<|A2 (AI (vs:=C9 (wh,(GK wh uu l))) I EE) I<|AB (Br (xs:=C9 (wh,(GK wh uu l))) I Bw I9 DD (hl:=encLs.len _)) I I I ?_
  rintro _ _ ⟨b64,rfl,rfl⟩
  refine AB (B6 (f:=C9) encLs (wh,(GK wh uu l)) I I Bw Bw Lg) I I I ?_
  rintro _ _ ⟨a65,cap65,rfl,rfl⟩
  rw [TK hs hhe,show (E7 wh uu l).length+1=(Bc wh uu l).length from by rw [<-TK hs hhe,List.length_append];rfl]
  refine wA I I<|AW<|A5 K18<|A7 fun _ K20=>A4 fun _ K21=>wA I I<|A3 K21<|AG ?_
  first|refine Cd (a:=a65) Bf (by omega) (fun gb hgb hcp=>?_)|refine Cd (a:=a) Bf (by omega) (fun gb hgb hcp=>?_)
  subst hgb
  refine Ak (σ:=Nat) (fun i2=> [(8,.int .i64 ((i2:Nat):Int))]) (fun i2=> []) (fun i2=>i2<=(Bc wh uu l).length) (fun i2=>(Bc wh uu l).length -i2) (1) [3,4,5,86,87,88,89,90,91,92,93,94,95,96,97,98] Cw D8 ?_ ?_ Sub.refl ?_
  ·exact hRp
  ·(try dsimp only);exact(Wk.cons Ch Wk.nil)
  rintro i2 hi2 K22 K22
  simp only [List.cons_append,List.nil_append]
  refine A7 fun _ K23=>A4 fun _ K24=>wM I I<|wM I I<|A2 (BA I I Bw) I<|A2 (An I I) I<|A3 K24<|AH I (fun hc5=>?_) (fun hc5=>?_)
  ·try simp only [dz] at hc5
   obtain⟨z,hz⟩: ∃z,(Bc wh uu l)[i2]? =some z:=⟨_,List.getElem?_eq_getElem (by omega)⟩
   refine AA<|A5 K23<|A7 fun _ K25=>AG<|A7 fun _ K26=>Am CE (fun _=>2) ?_
   refine jM 0 I I I hp<|jM 1 I I I hp<|jP 2 I (AT i2 I I Bw DD (hj:=by omega)) I hp ?_
   refine jP 3 I (A1 I Cf) I hp<|jT 4 I (AU (i:=i2) (j:=0) (y:=z) I BX (hl:=hz) (hv:=I)) I hp AQ ?_
   refine jP 5 I (A1 I Cf) I hp<|jT 6 I (A6 I BX (v:=.int .u32 ((wh.toNat:Nat):Int))) I hp AQ<|jP 7 I (DL I I) I hp<|jD<|A5 K26<|AH I (fun hc6=>?_) (fun hc6=>?_)
   ·try simp only [dz] at hc6
    have hzw:z.1=wh:=by first|assumption|exact BitVec.eq_of_toNat_eq (by omega)
    refine AD<|wM I I<|wM I I<|A2 (A1 I Bm) I<|A2 (A6 I BF (v:=.int .i64 (GK wh uu l))) I<|A2 (AT i2 I I Bw DD (hj:=by omega)) I ?_
    refine A2 (A1 I Bm) I<|AX (Aq (wh,(GK wh uu l)) I I Fw (i:=i2) (j:=1) (hl:=hz) (hu:=by rw [<-hzw];rfl)) I I ?_
    rintro _ _ rfl
    rw [Lt hs hz hzw]
    refine AW<|A5 K25<|AD<|wM I I<|A2 (AN (j:=1) I I) I<|wA I I<|AW<|Az (K22 (i2+1) (by omega) (by omega))
   try simp only [dz] at hc6
   refine AA<|A5 K25<|AD<|wM I I<|A2 (AN (j:=1) I I) I<|wA I I<|AW<|Az (K22 (i2+1) (by omega) (by omega))
  try simp only [dz] at hc5
  obtain⟨z,hz0⟩: ∃z,(Bc wh uu l)[0]? =some z:=⟨_,List.getElem?_eq_getElem (by omega)⟩
  refine Aj<|A5 K20<|A7 fun _ K27=>A7 fun _ K28=>Am CE (fun _=>2) ?_
  refine jM 0 I I I hp<|jP 1 I (AT 0 I I Bw DD (hj:=by omega)) I hp ?_
  refine jP 2 I (A1 I Cf) I hp<|jT 3 I (AU (i:=0) (j:=0) (y:=z) I BX (hl:=hz0) (hv:=I)) I hp AQ ?_
  refine jP 4 I (A1 I Cf) I hp<|jT 5 I (A6 I BX (v:=.int .u32 ((wh.toNat:Nat):Int))) I hp AQ<|jP 6 I (DL I I) I hp<|jD<|A5 K28<|AH I (fun hc7=>?_) (fun hc7=>?_)
  ·try simp only [dz] at hc7
   have hzw:z.1=wh:=by first|assumption|exact BitVec.eq_of_toNat_eq (by omega)
   refine AD<|wM I I<|A2 (A1 I Bm) I<|A2 (A6 I BF (v:=.int .i64 (GK wh uu l))) I<|A2 (AT 0 I I Bw DD (hj:=by omega)) I ?_
   refine A2 (A1 I Bm) I<|AX (Aq (wh,(GK wh uu l)) I I Fw (i:=0) (j:=1) (hl:=hz0) (hu:=by rw [<-hzw];rfl)) I I ?_
   rintro _ _ rfl
   rw [Lt hs hz0 hzw]
   refine AW<|A5 K27<|A4 fun _ K29=>wM I I<|wA I I<|A3 K29<|AK ?_
   exact hret.gf (some gb,cap65) (BR rfl rfl)
  try simp only [dz] at hc7
  refine AA<|A5 K27<|A4 fun _ K30=>wM I I<|wA I I<|A3 K30<|AK ?_
  exact hret.gf (some gb,cap65) (BR rfl rfl)
 try simp only [dz] at hc4
 have hhe:HH wh l≠ []:=by first|(simpa using hc4)|(simp_all;done)
 rw [Wl hs hhe]
 refine AA<|A5 K18<|A7 fun _ K31=>A4 fun _ K32=>wA I I<|A3 K32<|AG ?_
 first|refine Cd (a:=a65) Bf (by omega) (fun gb hgb hcp=>?_)|refine Cd (a:=a) Bf (by omega) (fun gb hgb hcp=>?_)
 subst hgb
 refine Ak (σ:=Nat) (fun i2=> [(8,.int .i64 ((i2:Nat):Int))]) (fun i2=> []) (fun i2=>i2<=(Bc wh uu l).length) (fun i2=>(Bc wh uu l).length -i2) (1) [3,4,5,86,87,88,89,90,91,92,93,94,95,96,97,98] Cw D8 ?_ ?_ Sub.refl ?_
 ·exact hRp
 ·(try dsimp only);exact(Wk.cons Ch Wk.nil)
 rintro i2 hi2 K33 K33
 simp only [List.cons_append,List.nil_append]
 refine A7 fun _ K34=>A4 fun _ K35=>wM I I<|wM I I<|A2 (BA I I Bw) I<|A2 (An I I) I<|A3 K35<|AH I (fun hc5=>?_) (fun hc5=>?_)
 ·try simp only [dz] at hc5
  obtain⟨z,hz⟩: ∃z,(Bc wh uu l)[i2]? =some z:=⟨_,List.getElem?_eq_getElem (by omega)⟩
  refine AA<|A5 K34<|A7 fun _ K36=>AG<|A7 fun _ K37=>Am CE (fun _=>2) ?_
  refine jM 0 I I I hp<|jM 1 I I I hp<|jP 2 I (AT i2 I I Bw DD (hj:=by omega)) I hp ?_
  refine jP 3 I (A1 I Cf) I hp<|jT 4 I (AU (i:=i2) (j:=0) (y:=z) I BX (hl:=hz) (hv:=I)) I hp AQ ?_
  refine jP 5 I (A1 I Cf) I hp<|jT 6 I (A6 I BX (v:=.int .u32 ((wh.toNat:Nat):Int))) I hp AQ<|jP 7 I (DL I I) I hp<|jD<|A5 K37<|AH I (fun hc6=>?_) (fun hc6=>?_)
  ·try simp only [dz] at hc6
   have hzw:z.1=wh:=by first|assumption|exact BitVec.eq_of_toNat_eq (by omega)
   refine AD<|wM I I<|wM I I<|A2 (A1 I Bm) I<|A2 (A6 I BF (v:=.int .i64 (GK wh uu l))) I<|A2 (AT i2 I I Bw DD (hj:=by omega)) I ?_
   refine A2 (A1 I Bm) I<|AX (Aq (wh,(GK wh uu l)) I I Fw (i:=i2) (j:=1) (hl:=hz) (hu:=by rw [<-hzw];rfl)) I I ?_
   rintro _ _ rfl
   rw [Lt hs hz hzw]
   refine AW<|A5 K36<|AD<|wM I I<|A2 (AN (j:=1) I I) I<|wA I I<|AW<|Az (K33 (i2+1) (by omega) (by omega))
  try simp only [dz] at hc6
  refine AA<|A5 K36<|AD<|wM I I<|A2 (AN (j:=1) I I) I<|wA I I<|AW<|Az (K33 (i2+1) (by omega) (by omega))
 try simp only [dz] at hc5
 obtain⟨z,hz0⟩: ∃z,(Bc wh uu l)[0]? =some z:=⟨_,List.getElem?_eq_getElem (by omega)⟩
 refine Aj<|A5 K31<|A7 fun _ K38=>A7 fun _ K39=>Am CE (fun _=>2) ?_
 refine jM 0 I I I hp<|jP 1 I (AT 0 I I Bw DD (hj:=by omega)) I hp ?_
 refine jP 2 I (A1 I Cf) I hp<|jT 3 I (AU (i:=0) (j:=0) (y:=z) I BX (hl:=hz0) (hv:=I)) I hp AQ ?_
 refine jP 4 I (A1 I Cf) I hp<|jT 5 I (A6 I BX (v:=.int .u32 ((wh.toNat:Nat):Int))) I hp AQ<|jP 6 I (DL I I) I hp<|jD<|A5 K39<|AH I (fun hc7=>?_) (fun hc7=>?_)
 ·try simp only [dz] at hc7
  have hzw:z.1=wh:=by first|assumption|exact BitVec.eq_of_toNat_eq (by omega)
  refine AD<|wM I I<|A2 (A1 I Bm) I<|A2 (A6 I BF (v:=.int .i64 (GK wh uu l))) I<|A2 (AT 0 I I Bw DD (hj:=by omega)) I ?_
  refine A2 (A1 I Bm) I<|AX (Aq (wh,(GK wh uu l)) I I Fw (i:=0) (j:=1) (hl:=hz0) (hu:=by rw [<-hzw];rfl)) I I ?_
  rintro _ _ rfl
  rw [Lt hs hz0 hzw]
  refine AW<|A5 K38<|A4 fun _ K40=>wM I I<|wA I I<|A3 K40<|AK ?_
  exact hret.gf (some gb,c) (BR rfl rfl)
 try simp only [dz] at hc7
 refine AA<|A5 K38<|A4 fun _ K41=>wM I I<|wA I I<|A3 K41<|AK ?_
 exact hret.gf (some gb,c) (BR rfl rfl)
end Go.Proofs.YtoakfknnaiapiaaGreat
namespace Go.Proofs.YtoakfknnaiapiaaGreat
open Go.RowKit Go.SL Go.ShM Go.SvM
set_option maxHeartbeats 1000000
set_option maxRecDepth 20000
set_option linter.all false

theorem Vw{p:Nat}{v:Value}{room tick t1:Int}(h:t1<tick\/1099511627776<t1):Ct Tryz.prog 22 [.pointer (some ⟨p,0,none⟩),.int .i64 t1] [cl p 24 [.int .i64 room,.int .i64 tick,v]] (fun _:Unit=>.int .i64 191) (fun _=> [cl p 24 [.int .i64 room,.int .i64 tick,v]]):=by
 refine AY (n:=76) Tryz.func22 I I I fun F w0 Q hret hnorm hp=>?_
 change WC _ _ _ _ _ _ _ (_::F)
 refine A4 fun _ K1=>wA I I<|A3 K1<|A7 fun _ K2=>A4 fun _ K3=>wM I I<|wM I I<|A2 (A9 I) I<|A2 (A1 I Di) I<|A2 (A6 I BF) I ?_
 refine A2 (Bt I I) I<|wM I I<|Ae 16 I (fun hg4=>?_) (fun hg4=>?_)
 ·try simp only [dz] at hg4
  refine wK I<|wK I<|A2 (AC I I) I<|A3 K3<|Ad I<|A4 fun _ K5=>wA I I<|A3 K5<|AK ?_
  exact hret.gf () (BR rfl rfl)
 try simp only [dz] at hg4
 refine wM I I<|A2 (DI I I) I ?_
 refine A2 (A8 I I) I<|A3 K3<|AH I (fun hc0=>?_) (fun hc0=>?_)
 ·try simp only [dz] at hc0
  refine A4 fun _ K6=>wA I I<|A3 K6<|AK ?_
  exact hret.gf () (BR rfl rfl)
 try simp only [dz] at hc0
 exfalso
 omega

theorem Jv{p:Nat}{kms:List KM}{ka:Option Nat}{kc:Nat}{room tick:Int}{t1:Int}(h1:tick<=t1)(h2:t1<=1099511627776)(hn:kms.length<=100000000)(hls: ∀k∈kms,k.e.ls.length<=100000):Ct Tryz.prog 22 [.pointer (some ⟨p,0,none⟩),.int .i64 t1] [cl p 24 [.int .i64 room,.int .i64 tick,sl ka kms.length kc],Aa ka kc 19 83 BH kms,star (CQ 5 44) kms] (fun g: {g:List KM × Option Nat × Nat // g.1.map KM.e=BW t1 (kms.map KM.e)} =>.int .i64 0) (fun g=> [cl p 24 [.int .i64 room,.int .i64 t1,sl g.1.2.1 g.1.1.length g.1.2.2],Aa g.1.2.1 g.1.2.2 19 83 BH g.1.1,star (CQ 5 44) g.1.1]):=by
 refine AY (n:=76) Tryz.func22 I I I fun F w0 Q hret hnorm hp=>?_
 change WC _ _ _ _ _ _ _ (_::_::_::F)
 refine Bu (fun w h=>B1 (a:=ka) (cap:=kc) (e:=19) (T:=83) (f:=BH) (l:=kms) Bf h) (fun hkf=>?_)
 have hV:Sv [Aa ka kc 19 83 BH kms] (sl ka kms.length kc) 19 BH kms (ka.map fun g=>⟨g,0,none⟩) kc:=BM encKM hkf.1 hkf.2
 refine A4 fun _ K1=>wA I I<|A3 K1<|A7 fun _ K2=>A4 fun _ K3=>wM I I<|wM I I<|A2 (A9 I) I<|A2 (A1 I Di) I<|A2 (A6 I BF) I ?_
 refine A2 (Bt I I) I<|wM I I<|Ae 16 I (fun hg4=>?_) (fun hg4=>?_)
 ·try simp only [dz] at hg4
  refine wK I<|wK I<|A2 (AC I I) I<|A3 K3<|Ad I ?_
  exfalso
  omega
 try simp only [dz] at hg4
 refine wM I I<|A2 (DI I I) I ?_
 refine A2 (A8 I I) I<|A3 K3<|AH I (fun hc0=>?_) (fun hc0=>?_)
 ·try simp only [dz] at hc0
  exfalso
  omega
 try simp only [dz] at hc0
 refine AA<|A5 K2<|A4 fun _ K5=>wM I I<|wM I I<|A2 (A9 I) I<|A2 (A1 I Di) I<|AX (Ar I I Fw) I I ?_
 rintro _ _ rfl
 refine A3 K5<|A4 fun _ K6=>A2 (Ag (v:=sl none 0 0) I) I<|CJ BH 19 83 ?_
 refine A3 K6<|A7 fun _ K7=>A4 fun _ K8=>wA I I<|A3 K8<|AG ?_
 rw [show star (CQ 5 44) kms=star (CQ 5 44) (([]:List KM)++kms.drop 0) from rfl]
 refine Ak (σ:=Nat × (List KM) × (Option Nat) × Nat) (fun ⟨i,D,a,c⟩=> [(5,sl a D.length c),(6,.int .i64 ((i:Nat):Int))]) (fun ⟨i,D,a,c⟩=> [Aa a c 19 83 BH D,star (CQ 5 44) (D++kms.drop i)]) (fun ⟨i,D,a,c⟩=>i<=kms.length/\D.map KM.e=((kms.map KM.e).take i).filterMap (LK t1)/\D.length<=i) (fun ⟨i,D,a,c⟩=>kms.length -i) ⟨0,[],none,0⟩ [0,1,4,72,73,74,75] Cw D8 ?_ ?_ Sub.refl ?_
 ·exact⟨Nat.zero_le _,rfl,Nat.le_refl _⟩
 ·(try dsimp only);exact(Wk.cons Ch (Wk.cons Ch Wk.nil))
 rintro⟨i,D,a,c⟩ ⟨hi,hD,hDl⟩ K9 K9
 simp only [List.cons_append,List.nil_append]
 refine A7 fun _ K10=>A4 fun _ K11=>wM I I<|wM I I<|A2 (A9 I) I<|A2 (A1 I BB) I<|A2 (A6 I CL (v:=sl ka kms.length kc)) I<|A2 (Al I I BV (hA:=hV)) I ?_
 refine A2 (An I I) I<|A3 K11<|AH I (fun hc1=>?_) (fun hc1=>?_)
 ·try simp only [dz] at hc1
  obtain⟨k,hk⟩: ∃k,kms[i]? =some k:=⟨_,List.getElem?_eq_getElem (by omega)⟩
  rw [J9 hk]
  refine Hi 5 44 D k (kms.drop (i+1)) ?_
  refine Bu (fun w h=>B1 (a:=k.la) (cap:=k.lc) (e:=2) (T:=44) (f:=C9) (l:=k.e.ls) Bf h) (fun hlf=>?_)
  have hL:Sv [Aa k.la k.lc 2 44 C9 k.e.ls] (sl k.la k.e.ls.length k.lc) 2 C9 k.e.ls (k.la.map fun g=>⟨g,0,none⟩) k.lc:=BM encLs hlf.1 hlf.2
  have hkl:=hls k (List.mem_of_getElem? hk)
  refine AA<|A5 K10<|A7 fun _ K12=>AG<|A4 fun _ K13=>wM I I<|A2 (A9 I) I<|A2 (A1 I BB) I<|A2 (A6 I CL (v:=sl ka kms.length kc)) I<|wM I I<|A2 (AO i I I BV C6 (hA:=hV) (hi:=by omega)) I ?_
  refine A2 (BG (f:=BH) (i:=i) (y:=k) I EM (hA:=hV) (hl:=hk)) I ?_
  refine AB (AZ Ey) I I I ?_
  rintro _ _ ⟨b7,rfl,rfl⟩
  refine AX (AV (ys:=BH k) I I C6 (h1:=by simpa [Value.cells] using encKM.one k) (hv:=by simpa [Value.cells] using encKM.len k) (hr:=by simp [Value.cells])) I I ?_
  rintro _ _ rfl
  refine A3 K13<|A4 fun _ K14=>A2 (Ag (v:=sl none 0 0) I) I<|CJ C9 2 44 ?_
  refine A3 K14<|A7 fun _ K15=>A4 fun _ K16=>wA rfl rfl<|A3 K16<|AG<|Ak (σ:=Nat × (Option Nat) × Nat) (fun ⟨j,a8,c8⟩=> [(8,sl a8 (D1 t1 (k.e.ls.take j)).length c8),(9,.int .i64 ((j:Nat):Int))]) (fun ⟨j,a8,c8⟩=> [Aa a8 c8 2 44 C9 (D1 t1 (k.e.ls.take j))]) (fun ⟨j,a8,c8⟩=>j<=k.e.ls.length) (fun ⟨j,a8,c8⟩=>k.e.ls.length -j) ⟨0,none,0⟩ [0,1,4,5,6,7,24,25,26,27,28,29,30,31,32,33,34,35,36,37,38,39,63,64,65,66,67,68,69,70,71,72,73,74,75] Cw (by (try dsimp only);rw [cd];repeat (first|with_reducible exact Gv.nil|(with_reducible apply Gv.cons;· (repeat (first|with_reducible exact Ext.here|with_reducible apply Ext.there))))) ?_ ?_ Sub.refl ?_
  ·exact Nat.zero_le _
  ·(try dsimp only);exact(Wk.cons Ch (Wk.cons Ch Wk.nil))
  rintro⟨j,a8,c8⟩ hj K17 K17
  simp only [List.cons_append,List.nil_append]
  refine A7 fun _ K18=>A4 fun _ K19=>wM I I<|A2 (A1 I Ca) I<|A2 (A6 I EP (v:=sl k.la k.e.ls.length k.lc) (hi:=GF k)) I<|A2 (Al I I Bw (hA:=hL)) I ?_
  refine A2 (An I I) I<|A3 K19<|AH I (fun hc2=>?_) (fun hc2=>?_)
  ·try simp only [dz] at hc2
   obtain⟨y,hy⟩: ∃y,k.e.ls[j]? =some y:=⟨_,List.getElem?_eq_getElem (by omega)⟩
   have hrl:=Uj t1 (k.e.ls.take j)
   rw [List.length_take] at hrl
   refine AA<|A5 K18<|A7 fun _ K20=>AG<|A4 fun _ K21=>A2 (A1 I Ca) I<|A2 (A6 I EP (v:=sl k.la k.e.ls.length k.lc) (hi:=GF k)) I<|wM I I<|A2 (AO j I I Bw DD (hA:=hL) (hi:=by omega)) I ?_
   refine A2 (A1 I Bm) I<|A2 (Af (f:=C9) (i:=j) (j:=1) (y:=y) I BF (hA:=hL) (hl:=hy) (hv:=I)) I ?_
   refine wM I I<|A2 (Dm I I) I ?_
   refine A3 K21<|AH I (fun hc3=>?_) (fun hc3=>?_)
   ·try simp only [dz] at hc3
    refine AD<|wM I I<|A2 (A1 I Ca) I<|A2 (A6 I EP (v:=sl k.la k.e.ls.length k.lc) (hi:=GF k)) I<|wM I I<|A2 (AO j I I Bw DD (hA:=hL) (hi:=by omega)) I ?_
    refine A2 (BG (f:=C9) (i:=j) (y:=y) I EE (hA:=hL) (hl:=hy)) I ?_
    refine AB (Br (xs:=C9 y) I Bw I9 DD (hl:=encLs.len _)) I I I ?_
    rintro _ _ ⟨b61,rfl,rfl⟩
    refine AB (B6 (f:=C9) encLs y I I Bw Bw Lg) I I I ?_
    rintro _ _ ⟨a62,cap62,rfl,rfl⟩
    rw [QD hy (by omega),show (D1 t1 (k.e.ls.take j)).length+1=(D1 t1 (k.e.ls.take (j+1))).length from by rw [<-QD hy (by omega),List.length_append];rfl]
    refine wA I I<|AW<|A5 K20<|AD<|wM I I<|A2 (AN (j:=1) I I) I<|wA I I<|AW<|Az (K17 ⟨j+1,a62,cap62⟩ (by (try dsimp only);omega) (by (try dsimp only);omega))
   try simp only [dz] at hc3
   rw [ZE hy (by omega)]
   refine AA<|A5 K20<|AD<|wM I I<|A2 (AN (j:=1) I I) I<|wA I I<|AW<|Az (K17 ⟨j+1,a8,c8⟩ (by (try dsimp only);omega) (by (try dsimp only);omega))
  try simp only [dz] at hc2
  obtain rfl:j=k.e.ls.length:=by omega
  rw [List.take_length]
  refine Aj<|A5 K15<|A4 fun _ K22=>wM I I<|A2 (A1 I Ca) I<|AX (Ar (ys:=BH (k.put (D1 t1 k.e.ls) a8 c8)) I I IC (hl:=by rw [Nat.blt_eq,Db];omega) (hr:=KW k _ _ _)) I I ?_
  rintro _ _ rfl
  refine A3 K22<|A4 fun _ K23=>wM I I<|A2 (BA I I Bw) I<|A2 (Bz (j:=0) I I) I ?_
  refine A3 K23<|AH I (fun hc4=>?_) (fun hc4=>?_)
  ·try simp only [dz] at hc4
   have htk:=Vs (t:=t1) (k:=k) (la:=a8) (lc:=c8) (by omega)
   refine AD<|wM I I<|A2 (AI (vs:=BH (k.put (D1 t1 k.e.ls) a8 c8)) I EM (hl:=by rw [Db];omega) (hi:=EK _)) I ?_
   refine AB (Br (xs:=BH (k.put (D1 t1 k.e.ls) a8 c8)) I BV Ey C6 (hl:=encKM.len _)) I I I ?_
   rintro _ _ ⟨b70,rfl,rfl⟩
   refine AB (B6 (f:=BH) encKM (k.put (D1 t1 k.e.ls) a8 c8) I I BV BV Ia) I I I ?_
   rintro _ _ ⟨a71,cap71,rfl,rfl⟩
   rw [show D.length+1=(D++ [(k.put (D1 t1 k.e.ls) a8 c8)]).length from by rw [List.length_append];rfl]
   refine Ik 5 44 D k (kms.drop (i+1)) (D1 t1 k.e.ls) a8 c8 ?_
   rw [show D++(k.put (D1 t1 k.e.ls) a8 c8)::kms.drop (i+1)=(D++ [(k.put (D1 t1 k.e.ls) a8 c8)])++kms.drop (i+1) from by rw [List.append_assoc];rfl]
   refine wA I I<|AW<|A5 K12<|AD<|wM I I<|A2 (AN (j:=1) I I) I<|wA I I<|AW<|Az (K9 ⟨i+1,D++ [(k.put (D1 t1 k.e.ls) a8 c8)],a71,cap71⟩ (⟨by (try dsimp only);omega,Jj hk hD htk,by(try dsimp only);rw [List.length_append];show D.length+1<=_;omega⟩) (by (try dsimp only);omega))
  try simp only [dz] at hc4
  have htk:=Vt (t:=t1) (k:=k) (by omega)
  refine AA<|A5 K12<|AD<|wM I I<|A2 (AN (j:=1) I I) I<|wA I I<|AW<|Az (K9 ⟨i+1,D,a,c⟩ (⟨by (try dsimp only);omega,bh hk hD htk,by(try dsimp only);omega⟩) (by (try dsimp only);omega))
 try simp only [dz] at hc1
 obtain rfl:i=kms.length:=by omega
 rw [List.drop_length,List.append_nil]
 refine Aj<|A5 K7<|A4 fun _ K24=>wM I I<|wM I I<|A2 (A9 I) I<|A2 (A1 I BB) I<|AX (Ar I I La) I I ?_
 rintro _ _ rfl
 refine A3 K24<|A4 fun _ K25=>wA I I<|A3 K25<|AK ?_
 exact hret.gf ⟨(D,a,c),Se (by omega) hD⟩ (BR rfl rfl)
end Go.Proofs.YtoakfknnaiapiaaGreat
/-
 Shares of which a lease is renewed or released;a share put in its place. (Conditions:none;no program in sight.)
-/
set_option maxRecDepth 20000
namespace Go.SvM
open Go.SL Go.ShM Go.RowKit
def Ht(r:Rq)(e:Kp):Bool:=decide (e.ix=r.ix) && Bi r.who e.ls
def Yv(r:Rq)(g:List Ls ->List Ls)(e:Kp):Option Kp:=if Ht r e=true then V9 g e else some e
theorem Tu{r:Rq}{g:List Ls ->List Ls}{k:KM}(h:Ht r k.e=false):Yv r g k.e=some k.e:=by unfold Yv;rw [h];rfl
theorem Tc{r:Rq}{k:KM}(h1:k.e.ix=r.ix)(h2:Bi r.who k.e.ls=true):Ht r k.e=true:=by unfold Ht;rw [decide_eq_true h1,h2];rfl
theorem IW{r:Rq}{k:KM}(h1: ¬k.e.ix.l=r.ix.l):Ht r k.e=false:=by unfold Ht;rw [decide_eq_false fun q=>h1 (congrArg Ix.l q)];rfl
theorem IV{r:Rq}{k:KM}(h2:Bi r.who k.e.ls=false):Ht r k.e=false:=by unfold Ht;rw [h2,Bool.and_false]
theorem di{r:Rq}{k:KM}{la:Option Nat}{lc:Nat}(h:Ht r k.e=true):Yv r (Bc r.who r.un) k.e=some (k.put (Bc r.who r.un k.e.ls) la lc).e:=by
 unfold Yv V9;rw [if_pos h,N5];rfl
theorem dl{r:Rq}{k:KM}{la:Option Nat}{lc:Nat}(h:Ht r k.e=true)(h2:0<(CC r.who k.e.ls).length):Yv r (CC r.who) k.e=some (k.put (CC r.who k.e.ls) la lc).e:=by
 unfold Yv V9 DR
 rw [if_pos h,if_neg (by intro q;rw [q] at h2;simp at h2)];rfl
theorem aN{r:Rq}{k:KM}(h:Ht r k.e=true)(h2: ¬0<(CC r.who k.e.ls).length):Yv r (CC r.who) k.e=none:=by
 unfold Yv V9 DR
 rw [if_pos h,if_pos (List.eq_nil_of_length_eq_zero (by omega))]
theorem Qv{r:Rq}{l:List Kp}{i:Nat}{e:Kp}(h:l[i]? =some e)(k:Ht r e=true):CX r (l.take i)++ [e.num]=CX r (l.take (i+1)):=by
 unfold CX B9
 rw [BZ h,List.filter_append,List.filter_cons_of_pos (by exact k),List.map_append];rfl
theorem M4{r:Rq}{l:List Kp}{i:Nat}{e:Kp}(h:l[i]? =some e)(k:Ht r e=false):CX r (l.take i)=CX r (l.take (i+1)):=by
 unfold CX B9
 rw [BZ h,List.filter_append,List.filter_cons_of_neg (by rw [show (decide (e.ix=r.ix) && Bi r.who e.ls)=false from k];decide),List.filter_nil,List.append_nil]
theorem Qw(r:Rq)(l:List Kp)(i:Nat):(CX r (l.take i)).length<=i:=by
 have:=Gh r.ix (fun e=>Bi r.who e.ls) (l.take i)
 rw [List.length_take] at this
 unfold CX;omega
theorem fc(w:Bv)(ls:List Ls):CC w (ls.take 0)= []:=rfl
theorem aJ{w:Bv}{ls:List Ls}{j:Nat}{y:Ls}(h:ls[j]? =some y)(k:y.1≠w):CC w (ls.take j)++ [y]=CC w (ls.take (j+1)):=by
 unfold CC
 rw [BZ h,List.filter_append,List.filter_cons_of_pos (by simpa using k)];rfl
theorem da{w:Bv}{ls:List Ls}{j:Nat}{y:Ls}(h:ls[j]? =some y)(k:y.1=w):CC w (ls.take j)=CC w (ls.take (j+1)):=by
 unfold CC
 rw [BZ h,List.filter_append,List.filter_cons_of_neg (by simpa using k),List.filter_nil,List.append_nil]
theorem V8(w:Bv)(ls:List Ls):(CC w ls).length<=ls.length:=List.length_filter_le _ _
theorem Zq{w:Bv}{ls:List Ls}{at_ j:Nat}{y:Ls}(h:Gm w ls=some at_)(hs:SrtW ls)(hy:ls[j]? =some y):j=at_<->y.1=w:=by
 obtain⟨x,hx,hw,_⟩:=Qs h
 have hw:=of_decide_eq_true hw
 constructor
 ·rintro rfl
  rw [hx] at hy;cases hy;exact hw
 ·intro e
  rcases Nat.lt_trichotomy j at_ with q|q|q
  ·have:=Ny hs q hy hx
   exact absurd (e.trans hw.symm) (MM this)
  ·exact q
  ·have:=Ny hs q hx hy
   exact absurd (hw.trans e.symm) (MM this)
def Hh(k:KM):List KM ->List KM
 | []=> [k]
 |x::r=>if Eh k.e.key x.e.key then k::x::r else x::Hh k r
theorem SY(k:KM): ∀l,(Hh k l).map KM.e=IF k.e (l.map KM.e)
 | []=>rfl
 |x::r=>by
  unfold Hh
  rw [List.map_cons,IF]
  split
  ·rfl
  ·rw [List.map_cons,SY k r]
theorem J5(k:KM): ∀l,(k::l).Perm (Hh k l)
 | []=>.refl _
 |x::r=>by
  unfold Hh
  split
  ·exact .refl _
  ·exact(List.Perm.swap _ _ _).trans ((J5 k r).cons x)
def KO(k:KM)(P:List KM):Bool:=P.any fun y=>decide (Eh k.e.key y.e.key)
def Ek(k:KM)(P:List KM):List KM:=if KO k P=true then Hh k P else P
theorem NA(k:KM)(P:List KM)(y:KM):KO k (P++ [y])=(KO k P ||decide (Eh k.e.key y.e.key)):=by
 unfold KO;rw [List.any_append];simp
theorem OA{k:KM} : ∀ {P:List KM} {y:KM},KO k P=true ->Hh k (P++ [y])=Hh k P++ [y]
 | [],_,h=>by cases h
 |x::P,y,h=>by
  rw [List.cons_append]
  unfold Hh
  by_cases q:Eh k.e.key x.e.key
  ·rw [if_pos q,if_pos q];rfl
  ·rw [if_neg q,if_neg q,List.cons_append,OA (P:=P)]
   unfold KO at h ⊢
   rw [List.any_cons,decide_eq_false q,Bool.false_or] at h
   exact h
theorem Ks{k:KM} : ∀ {P:List KM} (Q:List KM),KO k P=false ->Hh k (P++Q)=P++Hh k Q
 | [],_,_=>rfl
 |x::P,Q,h=>by
  unfold KO at h
  rw [List.any_cons,Bool.or_eq_false_iff] at h
  rw [List.cons_append]
  conv=>lhs;unfold Hh
  rw [if_neg (of_decide_eq_false h.1),Ks (P:=P) Q h.2];rfl
theorem N6{k:KM}{P:List KM}{y:KM}(h:KO k P=true):Ek k P++ [y]=Ek k (P++ [y])/\KO k (P++ [y])=true:=by
 have h2:KO k (P++ [y])=true:=by rw [NA,h];rfl
 unfold Ek
 rw [if_pos h,if_pos h2,OA h]
 exact⟨rfl,h2⟩
theorem M3{k:KM}{P:List KM}{y:KM}(h:KO k P=false)(hk:Eh k.e.key y.e.key):(Ek k P++ [k])++ [y]=Ek k (P++ [y])/\KO k (P++ [y])=true:=by
 have h2:KO k (P++ [y])=true:=by rw [NA,decide_eq_true hk,Bool.or_true]
 unfold Ek
 rw [if_neg (by rw [h];decide),if_pos h2,Ks [y] h]
 unfold Hh
 rw [if_pos hk,List.append_assoc]
 exact⟨rfl,h2⟩
theorem P9{k:KM}{P:List KM}{y:KM}(h:KO k P=false)(hk: ¬Eh k.e.key y.e.key):Ek k P++ [y]=Ek k (P++ [y])/\KO k (P++ [y])=false:=by
 have h2:KO k (P++ [y])=false:=by rw [NA,h,decide_eq_false hk];rfl
 unfold Ek
 rw [if_neg (by rw [h];decide),if_neg (by rw [h2];decide),h2]
 exact⟨rfl,rfl⟩
theorem XP{k:KM}{P:List KM}(h:KO k P=true):Ek k P=Hh k P:=by unfold Ek;rw [if_pos h]
theorem TY{k:KM}{P:List KM}(h:KO k P=false):Ek k P++ [k]=Hh k P:=by
 have:=Ks (k:=k) (P:=P) [] h
 rw [List.append_nil] at this
 unfold Ek
 rw [if_neg (by rw [h];decide),this];rfl
theorem dA(k:KM)(l:List KM):Ek k (l.take 0)= []:=rfl
theorem Qq(k:KM)(P:List KM):(Ek k P).length<=P.length+1:=by
 unfold Ek
 split
 ·rw [<-(J5 k P).length_eq];simp
 ·omega
end Go.SvM
namespace Go.Proofs.YtoakfknnaiapiaaGreat
open Go.RowKit Go.SL Go.ShM Go.SvM
set_option maxHeartbeats 1000000
set_option maxRecDepth 20000
set_option linter.all false
theorem aO:DF Tryz.prog 92=true:=by kernel_rfl
theorem dm:DF Tryz.prog 93=true:=by kernel_rfl
theorem IL:sz Tryz.prog 79=some 1:=by kernel_rfl
theorem Pi{m:Md}{Q:Exit ->Act ->World ->Prop}{w0:World}{n:Nat}{c:Code}{L:List (Nat × Value)}{A:List Ao}(k:WC Tryz.prog m Q w0 n c L (Aa none 0 1 3 eI []::A)):WC Tryz.prog m Q w0 n c L A:=Cz (fun _ h=>BO h) k

theorem RJ{p:Nat}{kms:List KM}{ka:Option Nat}{kc:Nat}{room tick:Int}{r:Rq}(hn:kms.length<=100000000)(hls: ∀k∈kms,k.e.ls.length<=100000)(hws: ∀k∈kms,SrtW k.e.ls):Ct Tryz.prog 75 [.pointer (some ⟨p,0,none⟩),.agg (CP r).toArray,.bool false] [cl p 24 [.int .i64 room,.int .i64 tick,sl ka kms.length kc],Aa ka kc 19 83 BH kms,star (CQ 5 44) kms] (fun g: {g:List KM × Option Nat × Nat × Option Nat × Nat // g.1.map KM.e=KZ r.ix (fun e=>Bi r.who e.ls) (Bc r.who r.un) (kms.map KM.e)} =>.agg [.int .u8 1,sl g.1.2.2.2.1 (CX r (kms.map KM.e)).length g.1.2.2.2.2,.slice none 0 0].toArray) (fun g=> [cl p 24 [.int .i64 room,.int .i64 tick,sl g.1.2.1 g.1.1.length g.1.2.2.1],Aa g.1.2.1 g.1.2.2.1 19 83 BH g.1.1,star (CQ 5 44) g.1.1,Aa g.1.2.2.2.1 g.1.2.2.2.2 1 3 eI (CX r (kms.map KM.e))]):=by
 refine AY (n:=100) Tryz.func75 I I I fun F w0 Q hret hnorm hp=>?_
 change WC _ _ _ _ _ _ _ (_::_::_::F)
 refine Bu (fun w h=>B1 (a:=ka) (cap:=kc) (e:=19) (T:=83) (f:=BH) (l:=kms) Bf h) (fun hkf=>?_)
 have hV:Sv [Aa ka kc 19 83 BH kms] (sl ka kms.length kc) 19 BH kms (ka.map fun g=>⟨g,0,none⟩) kc:=BM encKM hkf.1 hkf.2
 have hixr:=r.ix.h
 refine A4 fun _ K1=>AB (Ay (xs:=CP r) I I) I I I ?_
 rintro _ _ ⟨b4,rfl,rfl⟩
 refine AB (AZ Ce) I I I ?_
 rintro _ _ ⟨b6,rfl,rfl⟩
 refine A3 K1<|A4 fun _ K2=>A2 (AL (v:=.agg ([.int .u8 1,.slice none 0 0,.slice none 0 0]:List Value).toArray) (Ah Bp I) I) I<|AB (AZ Ce) I I I ?_
 rintro _ _ ⟨b7,rfl,rfl⟩
 refine AX (AV (ys:= [.int .u8 1,.slice none 0 0,.slice none 0 0]) I I Ba (h1:=by simp [BD,Value.cells,Value.oneCell',sl]) (hr:=I)) I I ?_
 rintro _ _ rfl
 refine A3 K2<|A4 fun _ K3=>A2 (Ag (v:=sl none 0 0) I) I<|CJ BH 19 83 ?_
 refine A3 K3<|A7 fun _ K4=>A4 fun _ K5=>wA I I<|A3 K5<|AG ?_
 rw [show star (CQ 5 44) kms=star (CQ 5 44) (([]:List KM)++kms.drop 0) from rfl]
 rw [show cl b7 113 [.int .u8 1,.slice none 0 0,.slice none 0 0]=cl b7 113 [.int .u8 1,sl none ([]:List Int).length 0,.slice none 0 0] from rfl]
 refine Pi ?_
 refine Ak (σ:=Nat × (List KM) × (Option Nat) × Nat × (Option Nat) × Nat) (fun ⟨i,D,a,c,na,nc⟩=> [(8,sl a D.length c),(9,.int .i64 ((i:Nat):Int))]) (fun ⟨i,D,a,c,na,nc⟩=> [Aa a c 19 83 BH D,star (CQ 5 44) (D++kms.drop i),cl b7 113 [.int .u8 1,sl na (CX r ((kms.map KM.e).take i)).length nc,.slice none 0 0],Aa na nc 1 3 eI (CX r ((kms.map KM.e).take i))]) (fun ⟨i,D,a,c,na,nc⟩=>i<=kms.length/\D.map KM.e=((kms.map KM.e).take i).filterMap (Yv r (Bc r.who r.un))/\D.length<=i) (fun ⟨i,D,a,c,na,nc⟩=>kms.length -i) ⟨0,[],none,0,none,0⟩ [0,2,4,6,7,95,96,97,98,99] Cw (by (try dsimp only);rw [show (CX r ((kms.map KM.e).take 0))= [] from rfl];repeat (first|with_reducible exact Gv.nil|(with_reducible apply Gv.cons;· (repeat (first|with_reducible exact Ext.here|with_reducible apply Ext.there))))) ?_ ?_ Sub.refl ?_
 ·exact⟨Nat.zero_le _,rfl,Nat.le_refl _⟩
 ·(try dsimp only);exact(Wk.cons Ch (Wk.cons Ch Wk.nil))
 rintro⟨i,D,a,c,na,nc⟩ ⟨hi,hD,hDl⟩ K6 K6
 simp only [List.cons_append,List.nil_append]
 refine A7 fun _ K7=>A4 fun _ K8=>wM I I<|wM I I<|A2 (A9 I) I<|A2 (A1 I BB) I<|A2 (A6 I CL (v:=sl ka kms.length kc)) I<|A2 (Al I I BV (hA:=hV)) I ?_
 refine A2 (An I I) I<|A3 K8<|AH I (fun hc0=>?_) (fun hc0=>?_)
 ·try simp only [dz] at hc0
  obtain⟨k,hk⟩: ∃k,kms[i]? =some k:=⟨_,List.getElem?_eq_getElem (by omega)⟩
  rw [J9 hk]
  refine Hi 5 44 D k (kms.drop (i+1)) ?_
  refine Bu (fun w h=>B1 (a:=k.la) (cap:=k.lc) (e:=2) (T:=44) (f:=C9) (l:=k.e.ls) Bf h) (fun hlf=>?_)
  have hL:Sv [Aa k.la k.lc 2 44 C9 k.e.ls] (sl k.la k.e.ls.length k.lc) 2 C9 k.e.ls (k.la.map fun g=>⟨g,0,none⟩) k.lc:=BM encLs hlf.1 hlf.2
  have hkl:=hls k (List.mem_of_getElem? hk)
  have hws1:=hws k (List.mem_of_getElem? hk)
  have hke:=TV hk
  have hhl:=Qw r (kms.map KM.e) i
  refine AA<|A5 K7<|A7 fun _ K9=>AG<|A4 fun _ K10=>wM I I<|A2 (A9 I) I<|A2 (A1 I BB) I<|A2 (A6 I CL (v:=sl ka kms.length kc)) I<|wM I I<|A2 (AO i I I BV C6 (hA:=hV) (hi:=by omega)) I ?_
  refine A2 (BG (f:=BH) (i:=i) (y:=k) I EM (hA:=hV) (hl:=hk)) I ?_
  refine AB (AZ Ey) I I I ?_
  rintro _ _ ⟨b10,rfl,rfl⟩
  refine AX (AV (ys:=BH k) I I C6 (h1:=by simpa [Value.cells] using encKM.one k) (hv:=by simpa [Value.cells] using encKM.len k) (hr:=by simp [Value.cells])) I I ?_
  rintro _ _ rfl
  refine A3 K10<|A4 fun _ K11=>A2 (AI (vs:=BH k) I EM (hl:=by rw [Db];omega) (hi:=EK _)) I ?_
  refine A2 (A1 I BS) I<|A2 (A1 I Cf) I<|A2 (A6 I BX (v:=.int .u32 ((r.who.toNat:Nat):Int)) (hi:=Fu r)) I<|AB (AE aO I (hs:=J6 (X:=Aa k.la k.lc 2 44 C9 k.e.ls) (k:=k.kv) (w:=r.who) hL (by show k.e.ls.length<=_;omega))) I I I ?_
  rintro _ _ ⟨⟨⟩,rfl,hA⟩
  simp only [ca] at hA
  subst hA
  rw [show k.kv.ls.l=k.e.ls from rfl]
  refine wA I I<|A3 K11<|A7 fun _ K12=>A4 fun _ K13=>A2 (A1 I FO) I<|A2 (AI (vs:=k.e.ix.l.flatMap (eU .u8)) I Cv (hl:=by rw [Db];omega) (hi:=Xm k)) I ?_
  refine A2 (A1 I CU) I<|A2 (AI (vs:=r.ix.l.flatMap (eU .u8)) I Cv (hl:=by rw [B5];omega) (hi:=Ci r)) I ?_
  refine A2 (Yj I I LY k.e.ix.h r.ix.h) I ?_
  refine wM I I<|Ae 41 I (fun hg14=>?_) (fun hg14=>?_)
  ·try simp only [dz] at hg14
   refine wK I<|wK I<|A2 (AC I I) I<|A3 K13<|Ad I ?_
   have hno:Ht r k.e=false:=by first|exact IV (Do.2 (by assumption))|exact IW (by assumption)|exact IV (Do.2 (by (simp_all;done)))|exact IW (by (simp_all;done))
   rw [M4 hke hno]
   refine A4 fun _ K15=>wM I I<|A2 (AI (vs:=BH k) I EM (hl:=by rw [Db];omega) (hi:=EK _)) I ?_
   refine AB (Br (xs:=BH k) I BV Ey C6 (hl:=encKM.len _)) I I I ?_
   rintro _ _ ⟨b47,rfl,rfl⟩
   refine AB (B6 (f:=BH) encKM k I I BV BV Ia) I I I ?_
   rintro _ _ ⟨a48,cap48,rfl,rfl⟩
   rw [show D.length+1=(D++ [k]).length from by rw [List.length_append];rfl]
   refine JE 5 44 D k (kms.drop (i+1)) ?_
   rw [show D++k::kms.drop (i+1)=(D++ [k])++kms.drop (i+1) from by rw [List.append_assoc];rfl]
   refine wA I I<|A3 K15<|Aj<|A5 K9<|AD<|wM I I<|A2 (AN (j:=1) I I) I<|wA I I<|AW<|Az (K6 ⟨i+1,D++ [k],a48,cap48,na,nc⟩ (⟨by (try dsimp only);omega,Jj hk hD (Tu hno),by(try dsimp only);rw [List.length_append];show D.length+1<=_;omega⟩) (by (try dsimp only);omega))
  try simp only [dz] at hg14
  refine wM I I<|A2 (AL (v:=.bool (decide (Gm r.who k.e.ls=none))) (Bt (j:=0) I I) (congrArg Value.bool (decide_eq_decide.2 KN))) I<|A2 (A8 I I) I<|A3 K13<|AH I (fun hc1=>?_) (fun hc1=>?_)
  ·try simp only [dz] at hc1
   have hno:Ht r k.e=false:=by first|exact IV (Do.2 (by assumption))|exact IW (by assumption)|exact IV (Do.2 (by (simp_all;done)))|exact IW (by (simp_all;done))
   rw [M4 hke hno]
   refine A4 fun _ K16=>wM I I<|A2 (AI (vs:=BH k) I EM (hl:=by rw [Db];omega) (hi:=EK _)) I ?_
   refine AB (Br (xs:=BH k) I BV Ey C6 (hl:=encKM.len _)) I I I ?_
   rintro _ _ ⟨b47,rfl,rfl⟩
   refine AB (B6 (f:=BH) encKM k I I BV BV Ia) I I I ?_
   rintro _ _ ⟨a48,cap48,rfl,rfl⟩
   rw [show D.length+1=(D++ [k]).length from by rw [List.length_append];rfl]
   refine JE 5 44 D k (kms.drop (i+1)) ?_
   rw [show D++k::kms.drop (i+1)=(D++ [k])++kms.drop (i+1) from by rw [List.append_assoc];rfl]
   refine wA I I<|A3 K16<|Aj<|A5 K9<|AD<|wM I I<|A2 (AN (j:=1) I I) I<|wA I I<|AW<|Az (K6 ⟨i+1,D++ [k],a48,cap48,na,nc⟩ (⟨by (try dsimp only);omega,Jj hk hD (Tu hno),by(try dsimp only);rw [List.length_append];show D.length+1<=_;omega⟩) (by (try dsimp only);omega))
  try simp only [dz] at hc1
  have hhit:Ht r k.e=true:=Tc (P8 (by first|assumption|simp_all)) (by rw [<-Bool.not_eq_false];exact fun q=>absurd (Do.1 q) (by first|assumption|simp_all))
  have hhY:(CX r ((kms.map KM.e).take i))++ [k.e.num]=(CX r ((kms.map KM.e).take (i+1))):=Qv hke hhit
  refine AA<|A5 K12<|A4 fun _ K17=>A2 (A1 I H7) I<|A2 (A6 I Gw (v:=sl na (CX r ((kms.map KM.e).take i)).length nc)) I<|A2 (A1 I E4) I<|A2 (A6 I BF (v:=.int .i64 k.e.num) (hi:=M8 k)) I<|AB (Br (xs:= [.int .i64 k.e.num]) I Dv UA Fw) I I I ?_
  rintro _ _ ⟨b53,rfl,rfl⟩
  refine AB (B6 (f:=eI) Jl k.e.num I I Dv Dv dS) I I I ?_
  rintro _ _ ⟨a54,cap54,rfl,rfl⟩
  rw [hhY,show (CX r ((kms.map KM.e).take i)).length+1=(CX r ((kms.map KM.e).take (i+1))).length from by rw [<-hhY,List.length_append];rfl]
  refine A2 (A1 I H7) I<|AX (Ar (ys:= [.int .u8 1,sl a54 (CX r ((kms.map KM.e).take (i+1))).length cap54,.slice none 0 0]) I I IL (hr:=I)) I I ?_
  rintro _ _ rfl
  refine A3 K17<|A7 fun _ K18=>A4 fun _ K19=>wM I I<|A2 (Au I) I<|A3 K19<|Ad I<|A4 fun _ K20=>A2 (A1 I Ca) I<|A2 (A6 I EP (v:=sl k.la k.e.ls.length k.lc) (hi:=GF k)) I<|A2 (A1 I BS) I<|A2 (AI (vs:= [.int .u32 (r.who.toNat:Int),.int .i64 r.un]) I EE (hl:=by rw [B5];omega) (hi:=Jm r)) I ?_
  refine AB (AE dm I (hs:=Mz (X:=Aa k.la k.lc 2 44 C9 k.e.ls) (l:=k.e.ls) (wh:=r.who) (uu:=r.un) hL hws1 (by omega))) I I I ?_
  rintro _ _ ⟨⟨a62,c62⟩,rfl,hA⟩
  simp only [ca] at hA
  subst hA
  refine A2 (A1 I Ca) I<|AX (Ar (ys:=BH (k.put (Bc r.who r.un k.e.ls) a62 c62)) I I IC (hl:=by rw [Nat.blt_eq,Db];omega) (hr:=KW k _ _ _)) I I ?_
  rintro _ _ rfl
  refine A3 K20<|A4 fun _ K21=>wM I I<|A2 (AI (vs:=BH (k.put (Bc r.who r.un k.e.ls) a62 c62)) I EM (hl:=by rw [Db];omega) (hi:=EK _)) I ?_
  refine AB (Br (xs:=BH (k.put (Bc r.who r.un k.e.ls) a62 c62)) I BV Ey C6 (hl:=encKM.len _)) I I I ?_
  rintro _ _ ⟨b66,rfl,rfl⟩
  refine AB (B6 (f:=BH) encKM (k.put (Bc r.who r.un k.e.ls) a62 c62) I I BV BV Ia) I I I ?_
  rintro _ _ ⟨a67,cap67,rfl,rfl⟩
  rw [show D.length+1=(D++ [(k.put (Bc r.who r.un k.e.ls) a62 c62)]).length from by rw [List.length_append];rfl]
  refine Ik 5 44 D k (kms.drop (i+1)) (Bc r.who r.un k.e.ls) a62 c62 ?_
  rw [show D++(k.put (Bc r.who r.un k.e.ls) a62 c62)::kms.drop (i+1)=(D++ [(k.put (Bc r.who r.un k.e.ls) a62 c62)])++kms.drop (i+1) from by rw [List.append_assoc];rfl]
  refine wA I I<|A3 K21<|Aj<|A5 K9<|AD<|wM I I<|A2 (AN (j:=1) I I) I<|wA I I<|AW<|Az (K6 ⟨i+1,D++ [(k.put (Bc r.who r.un k.e.ls) a62 c62)],a67,cap67,a54,cap54⟩ (⟨by (try dsimp only);omega,Jj hk hD (di hhit),by(try dsimp only);rw [List.length_append];show D.length+1<=_;omega⟩) (by (try dsimp only);omega))
 try simp only [dz] at hc0
 obtain rfl:i=kms.length:=by omega
 rw [List.drop_length,List.append_nil,List.take_of_length_le (show (kms.map KM.e).length<=kms.length from Nat.le_of_eq (List.length_map _))]
 refine Aj<|A5 K4<|A4 fun _ K22=>wM I I<|wM I I<|A2 (A9 I) I<|A2 (A1 I BB) I<|AX (Ar I I La) I I ?_
 rintro _ _ rfl
 refine A3 K22<|A4 fun _ K23=>A2 (AI (vs:= [.int .u8 1,sl na (CX r (kms.map KM.e)).length nc,.slice none 0 0]) I Bn) I<|AX (AV (ys:= [.int .u8 1,sl na (CX r (kms.map KM.e)).length nc,.slice none 0 0]) I I Ba (h1:=by simp [BD,Value.cells,Value.oneCell',sl]) (hr:=I)) I I ?_
 rintro _ _ rfl
 refine A3 K23<|AK ?_
 exact hret.gf ⟨(D,a,c,na,nc),Se (by omega) hD⟩ (Fl rfl rfl Bn)

theorem RN{p:Nat}{kms:List KM}{ka:Option Nat}{kc:Nat}{room tick:Int}{r:Rq}(hn:kms.length<=100000000)(hls: ∀k∈kms,k.e.ls.length<=100000)(hws: ∀k∈kms,SrtW k.e.ls):Ct Tryz.prog 75 [.pointer (some ⟨p,0,none⟩),.agg (CP r).toArray,.bool true] [cl p 24 [.int .i64 room,.int .i64 tick,sl ka kms.length kc],Aa ka kc 19 83 BH kms,star (CQ 5 44) kms] (fun g: {g:List KM × Option Nat × Nat × Option Nat × Nat // g.1.map KM.e=KZ r.ix (fun e=>Bi r.who e.ls) (CC r.who) (kms.map KM.e)} =>.agg [.int .u8 1,sl g.1.2.2.2.1 (CX r (kms.map KM.e)).length g.1.2.2.2.2,.slice none 0 0].toArray) (fun g=> [cl p 24 [.int .i64 room,.int .i64 tick,sl g.1.2.1 g.1.1.length g.1.2.2.1],Aa g.1.2.1 g.1.2.2.1 19 83 BH g.1.1,star (CQ 5 44) g.1.1,Aa g.1.2.2.2.1 g.1.2.2.2.2 1 3 eI (CX r (kms.map KM.e))]):=by
 refine AY (n:=100) Tryz.func75 I I I fun F w0 Q hret hnorm hp=>?_
 change WC _ _ _ _ _ _ _ (_::_::_::F)
 refine Bu (fun w h=>B1 (a:=ka) (cap:=kc) (e:=19) (T:=83) (f:=BH) (l:=kms) Bf h) (fun hkf=>?_)
 have hV:Sv [Aa ka kc 19 83 BH kms] (sl ka kms.length kc) 19 BH kms (ka.map fun g=>⟨g,0,none⟩) kc:=BM encKM hkf.1 hkf.2
 have hixr:=r.ix.h
 refine A4 fun _ K1=>AB (Ay (xs:=CP r) I I) I I I ?_
 rintro _ _ ⟨b4,rfl,rfl⟩
 refine AB (AZ Ce) I I I ?_
 rintro _ _ ⟨b6,rfl,rfl⟩
 refine A3 K1<|A4 fun _ K2=>A2 (AL (v:=.agg ([.int .u8 1,.slice none 0 0,.slice none 0 0]:List Value).toArray) (Ah Bp I) I) I<|AB (AZ Ce) I I I ?_
 rintro _ _ ⟨b7,rfl,rfl⟩
 refine AX (AV (ys:= [.int .u8 1,.slice none 0 0,.slice none 0 0]) I I Ba (h1:=by simp [BD,Value.cells,Value.oneCell',sl]) (hr:=I)) I I ?_
 rintro _ _ rfl
 refine A3 K2<|A4 fun _ K3=>A2 (Ag (v:=sl none 0 0) I) I<|CJ BH 19 83 ?_
 refine A3 K3<|A7 fun _ K4=>A4 fun _ K5=>wA I I<|A3 K5<|AG ?_
 rw [show star (CQ 5 44) kms=star (CQ 5 44) (([]:List KM)++kms.drop 0) from rfl]
 rw [show cl b7 113 [.int .u8 1,.slice none 0 0,.slice none 0 0]=cl b7 113 [.int .u8 1,sl none ([]:List Int).length 0,.slice none 0 0] from rfl]
 refine Pi ?_
 refine Ak (σ:=Nat × (List KM) × (Option Nat) × Nat × (Option Nat) × Nat) (fun ⟨i,D,a,c,na,nc⟩=> [(8,sl a D.length c),(9,.int .i64 ((i:Nat):Int))]) (fun ⟨i,D,a,c,na,nc⟩=> [Aa a c 19 83 BH D,star (CQ 5 44) (D++kms.drop i),cl b7 113 [.int .u8 1,sl na (CX r ((kms.map KM.e).take i)).length nc,.slice none 0 0],Aa na nc 1 3 eI (CX r ((kms.map KM.e).take i))]) (fun ⟨i,D,a,c,na,nc⟩=>i<=kms.length/\D.map KM.e=((kms.map KM.e).take i).filterMap (Yv r (CC r.who))/\D.length<=i) (fun ⟨i,D,a,c,na,nc⟩=>kms.length -i) ⟨0,[],none,0,none,0⟩ [0,2,4,6,7,95,96,97,98,99] Cw (by (try dsimp only);rw [show (CX r ((kms.map KM.e).take 0))= [] from rfl];repeat (first|with_reducible exact Gv.nil|(with_reducible apply Gv.cons;· (repeat (first|with_reducible exact Ext.here|with_reducible apply Ext.there))))) ?_ ?_ Sub.refl ?_
 ·exact⟨Nat.zero_le _,rfl,Nat.le_refl _⟩
 ·(try dsimp only);exact(Wk.cons Ch (Wk.cons Ch Wk.nil))
 rintro⟨i,D,a,c,na,nc⟩ ⟨hi,hD,hDl⟩ K6 K6
 simp only [List.cons_append,List.nil_append]
 refine A7 fun _ K7=>A4 fun _ K8=>wM I I<|wM I I<|A2 (A9 I) I<|A2 (A1 I BB) I<|A2 (A6 I CL (v:=sl ka kms.length kc)) I<|A2 (Al I I BV (hA:=hV)) I ?_
 refine A2 (An I I) I<|A3 K8<|AH I (fun hc0=>?_) (fun hc0=>?_)
 ·try simp only [dz] at hc0
  obtain⟨k,hk⟩: ∃k,kms[i]? =some k:=⟨_,List.getElem?_eq_getElem (by omega)⟩
  rw [J9 hk]
  refine Hi 5 44 D k (kms.drop (i+1)) ?_
  refine Bu (fun w h=>B1 (a:=k.la) (cap:=k.lc) (e:=2) (T:=44) (f:=C9) (l:=k.e.ls) Bf h) (fun hlf=>?_)
  have hL:Sv [Aa k.la k.lc 2 44 C9 k.e.ls] (sl k.la k.e.ls.length k.lc) 2 C9 k.e.ls (k.la.map fun g=>⟨g,0,none⟩) k.lc:=BM encLs hlf.1 hlf.2
  have hkl:=hls k (List.mem_of_getElem? hk)
  have hws1:=hws k (List.mem_of_getElem? hk)
  have hke:=TV hk
  have hhl:=Qw r (kms.map KM.e) i
  refine AA<|A5 K7<|A7 fun _ K9=>AG<|A4 fun _ K10=>wM I I<|A2 (A9 I) I<|A2 (A1 I BB) I<|A2 (A6 I CL (v:=sl ka kms.length kc)) I<|wM I I<|A2 (AO i I I BV C6 (hA:=hV) (hi:=by omega)) I ?_
  refine A2 (BG (f:=BH) (i:=i) (y:=k) I EM (hA:=hV) (hl:=hk)) I ?_
  refine AB (AZ Ey) I I I ?_
  rintro _ _ ⟨b10,rfl,rfl⟩
  refine AX (AV (ys:=BH k) I I C6 (h1:=by simpa [Value.cells] using encKM.one k) (hv:=by simpa [Value.cells] using encKM.len k) (hr:=by simp [Value.cells])) I I ?_
  rintro _ _ rfl
  refine A3 K10<|A4 fun _ K11=>A2 (AI (vs:=BH k) I EM (hl:=by rw [Db];omega) (hi:=EK _)) I ?_
  refine A2 (A1 I BS) I<|A2 (A1 I Cf) I<|A2 (A6 I BX (v:=.int .u32 ((r.who.toNat:Nat):Int)) (hi:=Fu r)) I<|AB (AE aO I (hs:=J6 (X:=Aa k.la k.lc 2 44 C9 k.e.ls) (k:=k.kv) (w:=r.who) hL (by show k.e.ls.length<=_;omega))) I I I ?_
  rintro _ _ ⟨⟨⟩,rfl,hA⟩
  simp only [ca] at hA
  subst hA
  rw [show k.kv.ls.l=k.e.ls from rfl]
  refine wA I I<|A3 K11<|A7 fun _ K12=>A4 fun _ K13=>A2 (A1 I FO) I<|A2 (AI (vs:=k.e.ix.l.flatMap (eU .u8)) I Cv (hl:=by rw [Db];omega) (hi:=Xm k)) I ?_
  refine A2 (A1 I CU) I<|A2 (AI (vs:=r.ix.l.flatMap (eU .u8)) I Cv (hl:=by rw [B5];omega) (hi:=Ci r)) I ?_
  refine A2 (Yj I I LY k.e.ix.h r.ix.h) I ?_
  refine wM I I<|Ae 41 I (fun hg14=>?_) (fun hg14=>?_)
  ·try simp only [dz] at hg14
   refine wK I<|wK I<|A2 (AC I I) I<|A3 K13<|Ad I ?_
   have hno:Ht r k.e=false:=by first|exact IV (Do.2 (by assumption))|exact IW (by assumption)|exact IV (Do.2 (by (simp_all;done)))|exact IW (by (simp_all;done))
   rw [M4 hke hno]
   refine A4 fun _ K15=>wM I I<|A2 (AI (vs:=BH k) I EM (hl:=by rw [Db];omega) (hi:=EK _)) I ?_
   refine AB (Br (xs:=BH k) I BV Ey C6 (hl:=encKM.len _)) I I I ?_
   rintro _ _ ⟨b47,rfl,rfl⟩
   refine AB (B6 (f:=BH) encKM k I I BV BV Ia) I I I ?_
   rintro _ _ ⟨a48,cap48,rfl,rfl⟩
   rw [show D.length+1=(D++ [k]).length from by rw [List.length_append];rfl]
   refine JE 5 44 D k (kms.drop (i+1)) ?_
   rw [show D++k::kms.drop (i+1)=(D++ [k])++kms.drop (i+1) from by rw [List.append_assoc];rfl]
   refine wA I I<|A3 K15<|Aj<|A5 K9<|AD<|wM I I<|A2 (AN (j:=1) I I) I<|wA I I<|AW<|Az (K6 ⟨i+1,D++ [k],a48,cap48,na,nc⟩ (⟨by (try dsimp only);omega,Jj hk hD (Tu hno),by(try dsimp only);rw [List.length_append];show D.length+1<=_;omega⟩) (by (try dsimp only);omega))
  try simp only [dz] at hg14
  refine wM I I<|A2 (AL (v:=.bool (decide (Gm r.who k.e.ls=none))) (Bt (j:=0) I I) (congrArg Value.bool (decide_eq_decide.2 KN))) I<|A2 (A8 I I) I<|A3 K13<|AH I (fun hc1=>?_) (fun hc1=>?_)
  ·try simp only [dz] at hc1
   have hno:Ht r k.e=false:=by first|exact IV (Do.2 (by assumption))|exact IW (by assumption)|exact IV (Do.2 (by (simp_all;done)))|exact IW (by (simp_all;done))
   rw [M4 hke hno]
   refine A4 fun _ K16=>wM I I<|A2 (AI (vs:=BH k) I EM (hl:=by rw [Db];omega) (hi:=EK _)) I ?_
   refine AB (Br (xs:=BH k) I BV Ey C6 (hl:=encKM.len _)) I I I ?_
   rintro _ _ ⟨b47,rfl,rfl⟩
   refine AB (B6 (f:=BH) encKM k I I BV BV Ia) I I I ?_
   rintro _ _ ⟨a48,cap48,rfl,rfl⟩
   rw [show D.length+1=(D++ [k]).length from by rw [List.length_append];rfl]
   refine JE 5 44 D k (kms.drop (i+1)) ?_
   rw [show D++k::kms.drop (i+1)=(D++ [k])++kms.drop (i+1) from by rw [List.append_assoc];rfl]
   refine wA I I<|A3 K16<|Aj<|A5 K9<|AD<|wM I I<|A2 (AN (j:=1) I I) I<|wA I I<|AW<|Az (K6 ⟨i+1,D++ [k],a48,cap48,na,nc⟩ (⟨by (try dsimp only);omega,Jj hk hD (Tu hno),by(try dsimp only);rw [List.length_append];show D.length+1<=_;omega⟩) (by (try dsimp only);omega))
  try simp only [dz] at hc1
  have hhit:Ht r k.e=true:=Tc (P8 (by first|assumption|simp_all)) (by rw [<-Bool.not_eq_false];exact fun q=>absurd (Do.1 q) (by first|assumption|simp_all))
  have hhY:(CX r ((kms.map KM.e).take i))++ [k.e.num]=(CX r ((kms.map KM.e).take (i+1))):=Qv hke hhit
  obtain⟨at_,hat⟩: ∃at_,Gm r.who k.e.ls=some at_:=Option.ne_none_iff_exists'.1 (by first|assumption|simp_all)
  rw [hat,show GA (some at_)=((at_:Nat):Int) from rfl]
  refine AA<|A5 K12<|A4 fun _ K17=>A2 (A1 I H7) I<|A2 (A6 I Gw (v:=sl na (CX r ((kms.map KM.e).take i)).length nc)) I<|A2 (A1 I E4) I<|A2 (A6 I BF (v:=.int .i64 k.e.num) (hi:=M8 k)) I<|AB (Br (xs:= [.int .i64 k.e.num]) I Dv UA Fw) I I I ?_
  rintro _ _ ⟨b53,rfl,rfl⟩
  refine AB (B6 (f:=eI) Jl k.e.num I I Dv Dv dS) I I I ?_
  rintro _ _ ⟨a54,cap54,rfl,rfl⟩
  rw [hhY,show (CX r ((kms.map KM.e).take i)).length+1=(CX r ((kms.map KM.e).take (i+1))).length from by rw [<-hhY,List.length_append];rfl]
  refine A2 (A1 I H7) I<|AX (Ar (ys:= [.int .u8 1,sl a54 (CX r ((kms.map KM.e).take (i+1))).length cap54,.slice none 0 0]) I I IL (hr:=I)) I I ?_
  rintro _ _ rfl
  refine A3 K17<|A7 fun _ K18=>A4 fun _ K19=>wM I I<|A2 (Au I) I<|A3 K19<|AM I<|AA<|A5 K18<|A4 fun _ K20=>A2 (Ag (v:=sl none 0 0) I) I<|CJ C9 2 44 ?_
  refine A3 K20<|A7 fun _ K21=>A4 fun _ K22=>wA rfl rfl<|A3 K22<|AG<|Ak (σ:=Nat × (Option Nat) × Nat) (fun ⟨j,a12,c12⟩=> [(12,sl a12 (CC r.who (k.e.ls.take j)).length c12),(13,.int .i64 ((j:Nat):Int))]) (fun ⟨j,a12,c12⟩=> [Aa a12 c12 2 44 C9 (CC r.who (k.e.ls.take j))]) (fun ⟨j,a12,c12⟩=>j<=k.e.ls.length) (fun ⟨j,a12,c12⟩=>k.e.ls.length -j) ⟨0,none,0⟩ [0,2,4,6,7,8,9,10,11,15,16,17,18,19,20,21,22,23,24,25,26,27,28,29,30,31,32,33,34,35,36,37,38,39,40,41,42,43,44,45,46,47,48,49,50,51,52,53,54,55,56,57,58,59,60,61,62,63,64,65,66,67,86,87,88,89,90,91,92,93,94,95,96,97,98,99] Cw (by (try dsimp only);rw [fc];repeat (first|with_reducible exact Gv.nil|(with_reducible apply Gv.cons;· (repeat (first|with_reducible exact Ext.here|with_reducible apply Ext.there))))) ?_ ?_ Sub.refl ?_
  ·exact Nat.zero_le _
  ·(try dsimp only);exact(Wk.cons Ch (Wk.cons Ch Wk.nil))
  rintro⟨j,a12,c12⟩ hj K23 K23
  simp only [List.cons_append,List.nil_append]
  refine A7 fun _ K24=>A4 fun _ K25=>wM I I<|A2 (A1 I Ca) I<|A2 (A6 I EP (v:=sl k.la k.e.ls.length k.lc) (hi:=GF k)) I<|A2 (Al I I Bw (hA:=hL)) I ?_
  refine A2 (An I I) I<|A3 K25<|AH I (fun hc3=>?_) (fun hc3=>?_)
  ·try simp only [dz] at hc3
   obtain⟨y,hy⟩: ∃y,k.e.ls[j]? =some y:=⟨_,List.getElem?_eq_getElem (by omega)⟩
   have hdl:=V8 r.who (k.e.ls.take j)
   rw [List.length_take] at hdl
   refine AA<|A5 K24<|A7 fun _ K26=>AG<|A4 fun _ K27=>wM I I<|wM I I<|A2 (AL (v:=.bool (decide (y.1≠r.who))) (Dy (i:=((j:Nat):Int)) (j:=((at_:Nat):Int)) I I) (congrArg Value.bool (by have:=Zq hat hws1 hy;first|(rw [Bool.eq_iff_iff];simp;omega)|(rw [Bool.eq_iff_iff];simp [<-this];omega)))) I ?_
   refine A3 K27<|AH I (fun hc4=>?_) (fun hc4=>?_)
   ·try simp only [dz] at hc4
    have hdY:(CC r.who (k.e.ls.take j))++ [y]=(CC r.who (k.e.ls.take (j+1))):=aJ hy (by first|assumption|simp_all)
    refine AD<|wM I I<|A2 (A1 I Ca) I<|A2 (A6 I EP (v:=sl k.la k.e.ls.length k.lc) (hi:=GF k)) I<|wM I I<|A2 (AO j I I Bw DD (hA:=hL) (hi:=by omega)) I ?_
    refine A2 (BG (f:=C9) (i:=j) (y:=y) I EE (hA:=hL) (hl:=hy)) I ?_
    refine AB (Br (xs:=C9 y) I Bw I9 DD (hl:=encLs.len _)) I I I ?_
    rintro _ _ ⟨b84,rfl,rfl⟩
    refine AB (B6 (f:=C9) encLs y I I Bw Bw Lg) I I I ?_
    rintro _ _ ⟨a85,cap85,rfl,rfl⟩
    rw [hdY,show (CC r.who (k.e.ls.take j)).length+1=(CC r.who (k.e.ls.take (j+1))).length from by rw [<-hdY,List.length_append];rfl]
    refine wA I I<|AW<|A5 K26<|AD<|wM I I<|A2 (AN (j:=1) I I) I<|wA I I<|AW<|Az (K23 ⟨j+1,a85,cap85⟩ (by (try dsimp only);omega) (by (try dsimp only);omega))
   try simp only [dz] at hc4
   rw [da hy (by first|assumption|simp_all)]
   refine AA<|A5 K26<|AD<|wM I I<|A2 (AN (j:=1) I I) I<|wA I I<|AW<|Az (K23 ⟨j+1,a12,c12⟩ (by (try dsimp only);omega) (by (try dsimp only);omega))
  try simp only [dz] at hc3
  obtain rfl:j=k.e.ls.length:=by omega
  rw [List.take_length]
  refine Aj<|A5 K21<|A4 fun _ K28=>wM I I<|A2 (A1 I Ca) I<|AX (Ar (ys:=BH (k.put (CC r.who k.e.ls) a12 c12)) I I IC (hl:=by rw [Nat.blt_eq,Db];omega) (hr:=KW k _ _ _)) I I ?_
  rintro _ _ rfl
  refine A3 K28<|A4 fun _ K29=>wM I I<|A2 (BA I I Bw) I<|A2 (Bz (j:=0) I I) I ?_
  refine A3 K29<|AH I (fun hc5=>?_) (fun hc5=>?_)
  ·try simp only [dz] at hc5
   refine AD<|wM I I<|A2 (AI (vs:=BH (k.put (CC r.who k.e.ls) a12 c12)) I EM (hl:=by rw [Db];omega) (hi:=EK _)) I ?_
   refine AB (Br (xs:=BH (k.put (CC r.who k.e.ls) a12 c12)) I BV Ey C6 (hl:=encKM.len _)) I I I ?_
   rintro _ _ ⟨b93,rfl,rfl⟩
   refine AB (B6 (f:=BH) encKM (k.put (CC r.who k.e.ls) a12 c12) I I BV BV Ia) I I I ?_
   rintro _ _ ⟨a94,cap94,rfl,rfl⟩
   rw [show D.length+1=(D++ [(k.put (CC r.who k.e.ls) a12 c12)]).length from by rw [List.length_append];rfl]
   refine Ik 5 44 D k (kms.drop (i+1)) (CC r.who k.e.ls) a12 c12 ?_
   rw [show D++(k.put (CC r.who k.e.ls) a12 c12)::kms.drop (i+1)=(D++ [(k.put (CC r.who k.e.ls) a12 c12)])++kms.drop (i+1) from by rw [List.append_assoc];rfl]
   refine wA I I<|AW<|A5 K9<|AD<|wM I I<|A2 (AN (j:=1) I I) I<|wA I I<|AW<|Az (K6 ⟨i+1,D++ [(k.put (CC r.who k.e.ls) a12 c12)],a94,cap94,a54,cap54⟩ (⟨by (try dsimp only);omega,Jj hk hD (dl hhit (by omega)),by(try dsimp only);rw [List.length_append];show D.length+1<=_;omega⟩) (by (try dsimp only);omega))
  try simp only [dz] at hc5
  refine AA<|A5 K9<|AD<|wM I I<|A2 (AN (j:=1) I I) I<|wA I I<|AW<|Az (K6 ⟨i+1,D,a,c,a54,cap54⟩ (⟨by (try dsimp only);omega,bh hk hD (aN hhit (by omega)),by(try dsimp only);omega⟩) (by (try dsimp only);omega))
 try simp only [dz] at hc0
 obtain rfl:i=kms.length:=by omega
 rw [List.drop_length,List.append_nil,List.take_of_length_le (show (kms.map KM.e).length<=kms.length from Nat.le_of_eq (List.length_map _))]
 refine Aj<|A5 K4<|A4 fun _ K30=>wM I I<|wM I I<|A2 (A9 I) I<|A2 (A1 I BB) I<|AX (Ar I I La) I I ?_
 rintro _ _ rfl
 refine A3 K30<|A4 fun _ K31=>A2 (AI (vs:= [.int .u8 1,sl na (CX r (kms.map KM.e)).length nc,.slice none 0 0]) I Bn) I<|AX (AV (ys:= [.int .u8 1,sl na (CX r (kms.map KM.e)).length nc,.slice none 0 0]) I I Ba (h1:=by simp [BD,Value.cells,Value.oneCell',sl]) (hr:=I)) I I ?_
 rintro _ _ rfl
 refine A3 K31<|AK ?_
 exact hret.gf ⟨(D,a,c,na,nc),Se (by omega) hD⟩ (Fl rfl rfl Bn)
end Go.Proofs.YtoakfknnaiapiaaGreat
