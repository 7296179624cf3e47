/-
  Contracts of functions that the claim reaches, or the logic and the plain laws that they rest on, or the row over them. (Conditions: none beyond the statement.)
-/
import Derived.Test.YtoakfknnaiapiaaGreatKAT
set_option linter.all false
namespace Go.Proofs.YtoakfknnaiapiaaGreat
open Go.RowKit Go.SL Go.ShM Go.SvM
set_option maxHeartbeats 1000000
set_option maxRecDepth 20000
set_option linter.all false
theorem fq:DF Tryz.prog 25=true:=by kernel_rfl
theorem Y7:DF Tryz.prog 51=true:=by kernel_rfl
theorem So:DF Tryz.prog 52=true:=by kernel_rfl
theorem cf53:DF Tryz.prog 53=true:=by kernel_rfl
theorem Dh:fo Tryz.prog 29 0=some (0,26):=by kernel_rfl
theorem Ev:fo Tryz.prog 29 1=some (1,27):=by kernel_rfl
theorem PM:fo Tryz.prog 38 3=some (6,35):=by kernel_rfl
theorem Sc:fo Tryz.prog 38 4=some (7,35):=by kernel_rfl
theorem Sb:fo Tryz.prog 38 5=some (8,36):=by kernel_rfl
theorem Xd:fo Tryz.prog 38 6=some (9,36):=by kernel_rfl
theorem Kv:fo Tryz.prog 49 2=some (2,3):=by kernel_rfl
theorem Eb:fo Tryz.prog 49 4=some (4,47):=by kernel_rfl
theorem f0:sz Tryz.prog 35=some 1:=by kernel_rfl
theorem ey:sz Tryz.prog 36=some 1:=by kernel_rfl
theorem GN:tk Tryz.prog 26=some none:=by kernel_rfl
theorem JJ:tk Tryz.prog 27=some none:=by kernel_rfl
theorem Vr:tk Tryz.prog 35=some none:=by kernel_rfl
theorem cX:tk Tryz.prog 36=some none:=by kernel_rfl
theorem WT{rp:Rp}{na ba:Option Nat}{nc bc:Nat}{GX:Ao}{na2 ba2:Option Addr}{nc2 bc2:Nat}(hn:Sv [Aa na nc 1 3 eI rp.ns] (sl na rp.ns.length nc) 1 eI rp.ns (na.map fun g=>⟨g,0,none⟩) nc)(hb:Sv [Aa ba bc 1 5 (eU .u8 (w:=8)) rp.bs] (sl ba rp.bs.length bc) 1 (eU .u8 (w:=8)) rp.bs (ba.map fun g=>⟨g,0,none⟩) bc)
  (hn2:Sv [GX] (.slice na2 rp.ns.length nc2) 1 eI rp.ns na2 nc2) (hb2:Sv [GX] (.slice ba2 rp.bs.length bc2) 1 (eU .u8 (w:=8)) rp.bs ba2 bc2) (h1:rp.ns.length<=900000000000) (h2:rp.bs.length<=900000000000):
  Ct Tryz.prog 53 [.agg [.int .u8 rp.kind,sl na rp.ns.length nc,sl ba rp.bs.length bc].toArray,.agg [.int .u8 rp.kind,.slice na2 rp.ns.length nc2,.slice ba2 rp.bs.length bc2].toArray] [Aa na nc 1 3 eI rp.ns,Aa ba bc 1 5 (eU .u8 (w:=8)) rp.bs,GX] (fun _:Unit=>.bool true) (fun _=> [Aa na nc 1 3 eI rp.ns,Aa ba bc 1 5 (eU .u8 (w:=8)) rp.bs,GX]):=
 (Ub (rp:=rp) (g:=⟨F7 [Aa na nc 1 3 eI rp.ns,Aa ba bc 1 5 (eU .u8 (w:=8)) rp.bs],_,_,_,_,_,_,hn.pk Has.here,hb.pk (Has.there Has.here)⟩) (g':=⟨GX,_,_,_,_,_,_,hn2,hb2⟩) h1 h2).conv (fun F w z=>Bb.2 z) (fun _ F w z=>show sat w ([Aa na nc 1 3 eI rp.ns,Aa ba bc 1 5 (eU .u8 (w:=8)) rp.bs]++(GX::F)) from Bb.1 (show sat w (F7 [Aa na nc 1 3 eI rp.ns,Aa ba bc 1 5 (eU .u8 (w:=8)) rp.bs]::GX::F) from z))

theorem aC{kb b p:Nat}{room:Int}{s s2:Sv1}{a:AcQ}{rp:Rp}{er:Int}{X:Ao}{c0 c1 c2 c3 g5 w5:Value}{hs:List PB}{ms:List Pt}{is:List PI}{zs:List KI}{ha ma ia za:Option Nat}{hc mc ic zc:Nat}(hw:Wf room s)(hn:s.l.length<=100000000)(hB:Sv [X] a.r.b.v 1 (eU .u8 (w:=8)) a.r.b.l a.r.b.ao a.r.b.cap)(hbl:a.r.b.l.length<=1000000)(hcm:Eg room s a.at_ a.r=(rp,er,s2))(hhl:hs.length<=100000000)(hml:ms.length<=100000000)(hil:is.length<=100000000)(hzl:zs.length<=100000000):Ct Tryz.prog 20 [.pointer (some ⟨kb,0,none⟩),(.agg ([.pointer (some ⟨b,0,none⟩),.pointer (some ⟨p,0,none⟩)]:List Value).toArray),(.agg (Cj a).toArray)] [cl kb 38 [c0,c1,c2,c3,g5,w5,sl ha hs.length hc,sl ma ms.length mc,sl ia is.length ic,sl za zs.length zc],Aa ha hc 1 45 Hj hs,Aa ma mc 1 45 fP ms,Aa ia ic 1 79 No is,Aa za zc 1 79 Rv zs,Eu 90 102 5 b room s,Du 24 83 5 44 p room s,X] (fun g:DoneG rp=>.bool true) (fun g=> [cl kb 38 [c0,c1,c2,c3,g5,w5,sl g.ha (hs++ [(⟨g.ba,g.bc,rp.bs⟩:PB)]).length g.hc,sl g.ma (ms++ [(⟨rp.bs,g.ba2,g.bc2⟩:Pt)]).length g.mc,sl g.ia (is++ [(⟨g.na,g.nc,rp.ns⟩:PI)]).length g.ic,sl g.za (zs++ [(⟨rp.ns.length,g.na2,g.nc2⟩:KI)]).length g.zc],Aa g.ha g.hc 1 45 Hj (hs++ [(⟨g.ba,g.bc,rp.bs⟩:PB)]),Aa g.ma g.mc 1 45 fP (ms++ [(⟨rp.bs,g.ba2,g.bc2⟩:Pt)]),Aa g.ia g.ic 1 79 No (is++ [(⟨g.na,g.nc,rp.ns⟩:PI)]),Aa g.za g.zc 1 79 Rv (zs++ [(⟨rp.ns.length,g.na2,g.nc2⟩:KI)]),Eu 90 102 5 b room s2,Du 24 83 5 44 p room s2,X,Aa g.na g.nc 1 3 eI rp.ns,Aa g.ba g.bc 1 5 (eU .u8 (w:=8)) rp.bs,g.GX]):=by
 refine AY (n:=105) Tryz.func20 I I I fun F w0 Q hret hnorm hp=>?_
 change WC _ _ _ _ _ _ _ (_::_::_::_::_::_::_::_::F)
 have hrl:=Nx hw hcm
 refine A4 fun _ K1=>AB (Ay (xs:= [.pointer (some ⟨b,0,none⟩),.pointer (some ⟨p,0,none⟩)]) I I) I I I ?_
 rintro _ _ ⟨b4,rfl,rfl⟩
 refine AB (Ay (xs:=Cj a) I I) I I I ?_
 rintro _ _ ⟨b5,rfl,rfl⟩
 refine wA I I<|A3 K1<|A4 fun _ K2=>A2 (A1 I Eb) I<|A2 (AI (vs:=CP a.r) I EG (hl:=by rw [Ee];omega) (hi:=Tq a)) I ?_
 refine AB (AZ Yx) I I I ?_
 rintro _ _ ⟨b7,rfl,rfl⟩
 refine AX (AV (ys:=CP a.r) I I Z4 (h1:=by simpa [Value.cells] using encRq.one a.r) (hv:=by simpa [Value.cells] using encRq.len a.r) (hr:=by simp [Value.cells])) I I ?_
 rintro _ _ rfl
 refine A3 K2<|A4 fun _ K3=>A2 (A1 I CG) I<|A2 (A6 I Bg (v:=a.r.b.v) (hi:=G5 a.r)) I<|AB (AE e9 I (hs:=P1 (X:=X) (l:=a.r.b.l) (hS:=hB))) I I I ?_
 rintro _ _ ⟨⟨a8,c8⟩,rfl,hA⟩
 simp only [ca] at hA
 subst hA
 refine Cl (fun w h=>B1 (a:=a8) (cap:=c8) (e:=1) (T:=5) (f:=(eU .u8 (w:=8))) (l:=(DC a.r.b.l)) Bf h) (fun hFf=>?_)
 have hFc:=hFf.2
 rw [Hg] at hFc
 have hF:Sv [Aa a8 c8 1 5 (eU .u8 (w:=8)) (DC a.r.b.l)] (sl a8 (DC a.r.b.l).length c8) 1 (eU .u8 (w:=8)) (DC a.r.b.l) (a8.map fun g=>⟨g,0,none⟩) c8:=BM (Em .u8 (w:=8)) hFf.1 hFf.2
 have hFs:Sv [Aa a8 c8 1 5 (eU .u8 (w:=8)) (DC a.r.b.l)] (sl a8 a.r.b.l.length c8) 1 (eU .u8 (w:=8)) a.r.b.l (a8.map fun g=>⟨g,0,none⟩) c8:=Sx (Em .u8 (w:=8)) (List.prefix_append _ _) hFf.1 hFf.2
 have hLl:=Hg a.r.b.l
 refine wA I I<|A3 K3<|A4 fun _ K4=>wM I I<|A2 (A1 I Eb) I<|A2 (A1 I CG) I<|A2 (A6 I Bg (v:=a.r.b.v) (hi:=Jn a)) I<|A2 (AL (v:=.int .i64 ((a.r.b.l.length:Nat):Int)) (BA I I BQ) I) I<|A2 (LZ a.r.b.l.length I I BQ Ki (hi:=by omega)) I ?_
 refine A2 (A1 I CG) I<|AX (Ar (ys:=CP (a.r.wb ⟨a.r.b.l,a8.map fun g=>⟨g,0,none⟩,c8⟩)) I I Gi (hl:=by rw [Nat.blt_eq,B5];omega) (hr:=aA a.r ⟨a.r.b.l,a8.map fun g=>⟨g,0,none⟩,c8⟩)) I I ?_
 rintro _ _ rfl
 refine A3 K4<|A4 fun _ K5=>A2 (A1 I Dh) I<|A2 (A6 I GN (v:=.pointer (some ⟨b,0,none⟩))) I<|A2 (A1 I Kv) I<|A2 (A6 I BF (v:=.int .i64 a.at_) (hi:=J8 a)) I<|A2 (AI (vs:=CP (a.r.wb ⟨a.r.b.l,a8.map fun g=>⟨g,0,none⟩,c8⟩)) I EG (hl:=by rw [B5];omega) (hi:=CM _)) I ?_
 refine AB (AE Y7 I (hs:=dY (b:=b) (room:=room) (t:=a.at_) (s:=s) (s2:=s2) (r:=(a.r.wb ⟨a.r.b.l,a8.map fun g=>⟨g,0,none⟩,c8⟩)) (Y:=Aa a8 c8 1 5 (eU .u8 (w:=8)) (DC a.r.b.l)) (rp:=rp) (er:=er) hw hFs hn ((YF (p:=⟨a.r.b.l,a8.map fun g=>⟨g,0,none⟩,c8⟩) I).trans hcm))) I I I ?_
 rintro _ _ ⟨⟨⟨na,nc⟩,⟨ba,bc⟩⟩,rfl,hA⟩
 simp only [ca] at hA
 subst hA
 refine wM I I<|A2 (BE I) I<|A2 (BN I) I<|AB (AZ Ce) I I I ?_
 rintro _ _ ⟨b9,rfl,rfl⟩
 refine AX (AV (ys:= [.int .u8 rp.kind,sl na rp.ns.length nc,sl ba rp.bs.length bc]) I I Ba (h1:=by simp [BD,Value.cells,Value.oneCell',sl]) (hr:=I)) I I ?_
 rintro _ _ rfl
 refine wA I I<|A3 K5<|A7 fun _ K6=>A4 fun _ K7=>wM I I<|A2 (A1 I Eb) I<|A2 (A1 I CG) I<|A2 (A6 I Bg (v:=a.r.b.v) (hi:=Jn a)) I<|AB (AE fq I (hs:=Ct.un0 (Xs:= [Aa a8 c8 1 5 (eU .u8 (w:=8)) (DC a.r.b.l),X]) (TW (X:=F7 [Aa a8 c8 1 5 (eU .u8 (w:=8)) (DC a.r.b.l),X]) (l:=(DC a.r.b.l)) (l':=a.r.b.l) (hS:=hF.pk Has.here) (hS':=hB.pk (Has.there Has.here)) (hl:=by omega) (hl':=by omega)))) I I I ?_
 rintro _ _ ⟨⟨⟩,rfl,hA⟩
 simp only [ca] at hA
 subst hA
 rw [show decide ((DC a.r.b.l)=(DC a.r.b.l))=true from decide_eq_true rfl]
 refine A2 (Au I) I<|A3 K7<|AM I<|AA<|A5 K6<|A4 fun _ K8=>wM I I<|AB (AE e8 I (hs:=Ot (l:=(DC a.r.b.l)) (a:=a8) (cap:=c8) (hl:=by omega))) I I I ?_
 rintro _ _ ⟨⟨⟩,rfl,hA⟩
 simp only [ca] at hA
 subst hA
 refine A3 K8<|A4 fun _ K9=>A2 (A1 I Ev) I<|A2 (A6 I JJ (v:=.pointer (some ⟨p,0,none⟩))) I<|A2 (A1 I Kv) I<|A2 (A6 I BF (v:=.int .i64 a.at_) (hi:=J8 a)) I<|A2 (A1 I Eb) I<|A2 (AI (vs:=CP a.r) I EG (hl:=by rw [Ee];omega) (hi:=Tq a)) I ?_
 refine AB (AE So I (hs:=Xr (p:=p) (room:=room) (t:=a.at_) (s:=s) (s2:=s2) (r:=a.r) (Y:=X) (rp:=rp) (er:=er) hw hB hn hcm)) I I I ?_
 rintro _ _ ⟨⟨GX,nv2,bv2,na2,nc2,ba2,bc2,ghn,ghb⟩,rfl,hA⟩
 simp only [ca] at hA
 subst hA
 obtain rfl:=ghn.val
 obtain rfl:=ghb.val
 refine wM I I<|A2 (BE I) I<|A2 (BN I) I<|AB (AZ Ce) I I I ?_
 rintro _ _ ⟨b11,rfl,rfl⟩
 refine AX (AV (ys:= [.int .u8 rp.kind,.slice na2 rp.ns.length nc2,.slice ba2 rp.bs.length bc2]) I I Ba (h1:=by simp [RpG.v,BD,Value.cells,Value.oneCell',sl]) (hr:=I)) I I ?_
 rintro _ _ rfl
 refine wA I I<|A3 K9<|A7 fun _ K10=>A4 fun _ K11=>wM I I<|wM I I<|A2 (AL (v:=.bool false) (Dy I I) (by simp)) I<|wM I I<|A2 (AI (vs:= [.int .u8 rp.kind,sl na rp.ns.length nc,sl ba rp.bs.length bc]) I Bn) I<|A2 (AI (vs:= [.int .u8 rp.kind,.slice na2 rp.ns.length nc2,.slice ba2 rp.bs.length bc2]) I Bn) I<|Cl (fun w h=>B1 (a:=na) (cap:=nc) (e:=1) (T:=3) (f:=eI) (l:=rp.ns) Bf h) (fun hnf=>?_)
 have hon:Sv [Aa na nc 1 3 eI rp.ns] (sl na rp.ns.length nc) 1 eI rp.ns (na.map fun g=>⟨g,0,none⟩) nc:=BM Jl hnf.1 hnf.2
 refine Cl (fun w h=>B1 (a:=ba) (cap:=bc) (e:=1) (T:=5) (f:=(eU .u8 (w:=8))) (l:=rp.bs) Bf h) (fun hbf=>?_)
 have hob:Sv [Aa ba bc 1 5 (eU .u8 (w:=8)) rp.bs] (sl ba rp.bs.length bc) 1 (eU .u8 (w:=8)) rp.bs (ba.map fun g=>⟨g,0,none⟩) bc:=BM (Em .u8 (w:=8)) hbf.1 hbf.2
 refine AB (AE cf53 I (hs:=WT (rp:=rp) hon hob ghn ghb (by omega) (by omega))) I I I ?_
 rintro _ _ ⟨⟨⟩,rfl,hA⟩
 simp only [ca] at hA
 subst hA
 refine A2 (Au I) I<|A2 (A8 I I) I<|A3 K11<|AM I<|AA<|A5 K10<|A7 fun _ K12=>BC CE [cl kb 38 [c0,c1,c2,c3,g5,w5,sl ha hs.length hc,sl ma ms.length mc,sl ia is.length ic,sl za zs.length zc],cl b9 113 [.int .u8 rp.kind,sl na rp.ns.length nc,sl ba rp.bs.length bc],cl b11 113 [.int .u8 rp.kind,.slice na2 rp.ns.length nc2,.slice ba2 rp.bs.length bc2]] (fun i=>([2,2,2,2,2,2,2,1,1,2,2,0]:List Nat).getD i 0) ?_
 refine jM 0 I I I hp<|jM 1 I I I hp<|jP 2 I (A9 I) I hp<|jP 3 I (A1 I PM) I hp<|jT 4 I (A6 I Vr (v:=sl ha hs.length hc)) I hp AQ<|jP 5 I (A1 I Ft) I hp<|jT 6 I (A6 I Bg (v:=sl ba rp.bs.length bc)) I hp AQ<|jO 7<|B7 I (Br (xs:= [sl ba rp.bs.length bc]) I Fa Yy Gi) I I I I ?_
 rintro _ _ ⟨b68,rfl,rfl⟩
 refine⟨(fun _=>Bh),?_⟩
 refine jO 8<|B7 I (B6 (f:=Hj) RD (⟨ba,bc,rp.bs⟩:PB) I I Fa Fa Zz) I I I I ?_
 rintro _ _ ⟨h3a,h3c,rfl,rfl⟩
 rw [show hs.length+1=(hs++ [(⟨ba,bc,rp.bs⟩:PB)]).length from by rw [List.length_append];rfl]
 refine⟨(fun _=>Bh),?_⟩
 refine jP 9 I (A9 I) I hp<|jP 10 I (A1 I PM) I hp<|jO 11<|EN I (Ar (ys:= [c0,c1,c2,c3,g5,w5,sl h3a (hs++ [(⟨ba,bc,rp.bs⟩:PB)]).length h3c,sl ma ms.length mc,sl ia is.length ic,sl za zs.length zc]) I I f0 (hr:=I)) I ?_
 rintro _ _ rfl
 refine jD<|A5 K12<|A7 fun _ K13=>BC CE [cl kb 38 [c0,c1,c2,c3,g5,w5,sl h3a (hs++ [(⟨ba,bc,rp.bs⟩:PB)]).length h3c,sl ma ms.length mc,sl ia is.length ic,sl za zs.length zc],cl b9 113 [.int .u8 rp.kind,sl na rp.ns.length nc,sl ba rp.bs.length bc],cl b11 113 [.int .u8 rp.kind,.slice na2 rp.ns.length nc2,.slice ba2 rp.bs.length bc2]] (fun i=>([2,2,2,2,2,2,2,1,1,2,2,0]:List Nat).getD i 0) ?_
 refine jM 0 I I I hp<|jM 1 I I I hp<|jP 2 I (A9 I) I hp<|jP 3 I (A1 I Sc) I hp<|jT 4 I (A6 I Vr (v:=sl ma ms.length mc)) I hp AQ<|jP 5 I (A1 I Ft) I hp<|jT 6 I (A6 I Bg (v:=.slice ba2 rp.bs.length bc2)) I hp AQ<|jO 7<|B7 I (Br (xs:= [.slice ba2 rp.bs.length bc2]) I Fa Yy Gi) I I I I ?_
 rintro _ _ ⟨b79,rfl,rfl⟩
 refine⟨(fun _=>Bh),?_⟩
 refine jO 8<|B7 I (B6 (f:=fP) fW (⟨rp.bs,ba2,bc2⟩:Pt) I I Fa Fa Zz) I I I I ?_
 rintro _ _ ⟨m3a,m3c,rfl,rfl⟩
 rw [show ms.length+1=(ms++ [(⟨rp.bs,ba2,bc2⟩:Pt)]).length from by rw [List.length_append];rfl]
 refine⟨(fun _=>Bh),?_⟩
 refine jP 9 I (A9 I) I hp<|jP 10 I (A1 I Sc) I hp<|jO 11<|EN I (Ar (ys:= [c0,c1,c2,c3,g5,w5,sl h3a (hs++ [(⟨ba,bc,rp.bs⟩:PB)]).length h3c,sl m3a (ms++ [(⟨rp.bs,ba2,bc2⟩:Pt)]).length m3c,sl ia is.length ic,sl za zs.length zc]) I I f0 (hr:=I)) I ?_
 rintro _ _ rfl
 refine jD<|A5 K13<|A7 fun _ K14=>BC CE [cl kb 38 [c0,c1,c2,c3,g5,w5,sl h3a (hs++ [(⟨ba,bc,rp.bs⟩:PB)]).length h3c,sl m3a (ms++ [(⟨rp.bs,ba2,bc2⟩:Pt)]).length m3c,sl ia is.length ic,sl za zs.length zc],cl b9 113 [.int .u8 rp.kind,sl na rp.ns.length nc,sl ba rp.bs.length bc],cl b11 113 [.int .u8 rp.kind,.slice na2 rp.ns.length nc2,.slice ba2 rp.bs.length bc2]] (fun i=>([2,2,2,2,2,2,2,1,1,2,2,0]:List Nat).getD i 0) ?_
 refine jM 0 I I I hp<|jM 1 I I I hp<|jP 2 I (A9 I) I hp<|jP 3 I (A1 I Sb) I hp<|jT 4 I (A6 I cX (v:=sl ia is.length ic)) I hp AQ<|jP 5 I (A1 I H7) I hp<|jT 6 I (A6 I Gw (v:=sl na rp.ns.length nc)) I hp AQ<|jO 7<|B7 I (Br (xs:= [sl na rp.ns.length nc]) I HM Rw IL) I I I I ?_
 rintro _ _ ⟨b90,rfl,rfl⟩
 refine⟨(fun _=>Bh),?_⟩
 refine jO 8<|B7 I (B6 (f:=No) bk (⟨na,nc,rp.ns⟩:PI) I I HM HM dQ) I I I I ?_
 rintro _ _ ⟨i3a,i3c,rfl,rfl⟩
 rw [show is.length+1=(is++ [(⟨na,nc,rp.ns⟩:PI)]).length from by rw [List.length_append];rfl]
 refine⟨(fun _=>Bh),?_⟩
 refine jP 9 I (A9 I) I hp<|jP 10 I (A1 I Sb) I hp<|jO 11<|EN I (Ar (ys:= [c0,c1,c2,c3,g5,w5,sl h3a (hs++ [(⟨ba,bc,rp.bs⟩:PB)]).length h3c,sl m3a (ms++ [(⟨rp.bs,ba2,bc2⟩:Pt)]).length m3c,sl i3a (is++ [(⟨na,nc,rp.ns⟩:PI)]).length i3c,sl za zs.length zc]) I I ey (hr:=I)) I ?_
 rintro _ _ rfl
 refine jD<|A5 K14<|A7 fun _ K15=>BC CE [cl kb 38 [c0,c1,c2,c3,g5,w5,sl h3a (hs++ [(⟨ba,bc,rp.bs⟩:PB)]).length h3c,sl m3a (ms++ [(⟨rp.bs,ba2,bc2⟩:Pt)]).length m3c,sl i3a (is++ [(⟨na,nc,rp.ns⟩:PI)]).length i3c,sl za zs.length zc],cl b9 113 [.int .u8 rp.kind,sl na rp.ns.length nc,sl ba rp.bs.length bc],cl b11 113 [.int .u8 rp.kind,.slice na2 rp.ns.length nc2,.slice ba2 rp.bs.length bc2]] (fun i=>([2,2,2,2,2,2,2,1,1,2,2,0]:List Nat).getD i 0) ?_
 refine jM 0 I I I hp<|jM 1 I I I hp<|jP 2 I (A9 I) I hp<|jP 3 I (A1 I Xd) I hp<|jT 4 I (A6 I cX (v:=sl za zs.length zc)) I hp AQ<|jP 5 I (A1 I H7) I hp<|jT 6 I (A6 I Gw (v:=.slice na2 rp.ns.length nc2)) I hp AQ<|jO 7<|B7 I (Br (xs:= [.slice na2 rp.ns.length nc2]) I HM Rw IL) I I I I ?_
 rintro _ _ ⟨b101,rfl,rfl⟩
 refine⟨(fun _=>Bh),?_⟩
 refine jO 8<|B7 I (B6 (f:=Rv) fY (⟨rp.ns.length,na2,nc2⟩:KI) I I HM HM dQ) I I I I ?_
 rintro _ _ ⟨z3a,z3c,rfl,rfl⟩
 rw [show zs.length+1=(zs++ [(⟨rp.ns.length,na2,nc2⟩:KI)]).length from by rw [List.length_append];rfl]
 refine⟨(fun _=>Bh),?_⟩
 refine jP 9 I (A9 I) I hp<|jP 10 I (A1 I Xd) I hp<|jO 11<|EN I (Ar (ys:= [c0,c1,c2,c3,g5,w5,sl h3a (hs++ [(⟨ba,bc,rp.bs⟩:PB)]).length h3c,sl m3a (ms++ [(⟨rp.bs,ba2,bc2⟩:Pt)]).length m3c,sl i3a (is++ [(⟨na,nc,rp.ns⟩:PI)]).length i3c,sl z3a (zs++ [(⟨rp.ns.length,na2,nc2⟩:KI)]).length z3c]) I I ey (hr:=I)) I ?_
 rintro _ _ rfl
 refine jD<|A5 K15<|A4 fun _ K16=>wA I I<|A3 K16<|AK ?_
 exact hret.gf ⟨na,nc,ba,bc,GX,na2,nc2,ba2,bc2,ghb,h3a,h3c,m3a,m3c,i3a,i3c,z3a,z3c⟩ (BR rfl rfl)
end Go.Proofs.YtoakfknnaiapiaaGreat
namespace Go.Proofs.YtoakfknnaiapiaaGreat
open Go.RowKit Go.SL Go.ShM Go.SvM
set_option maxHeartbeats 1000000
set_option maxRecDepth 20000
set_option linter.all false
theorem Pa:DF Tryz.prog 19=true:=by kernel_rfl
theorem cf30:DF Tryz.prog 30=true:=by kernel_rfl
theorem FR:fo Tryz.prog 38 0=some (0,33):=by kernel_rfl
theorem Hw:fo Tryz.prog 49 0=some (0,3):=by kernel_rfl
theorem IY:fo Tryz.prog 49 1=some (1,3):=by kernel_rfl
theorem Jt:Tryz.prog.underlying 33=some (.array 2 29):=by kernel_rfl
theorem gQ{m:Md}{Q:Exit ->Act ->World ->Prop}{w0:World}{n:Nat}{c:Code}{L:List (Nat × Value)}{A R:List Ao}{p:Nat}{room:Int}{s:Sv1}(k: ∀(kms:List KM) (ka:Option Nat) (kc:Nat),kms.map KM.e=s.l ->WC Tryz.prog m Q w0 n c L (cl p 24 [.int .i64 room,.int .i64 s.tick,sl ka kms.length kc]::Aa ka kc 19 83 BH kms::star (CQ 5 44) kms::R))(hE:Ext A (Du 24 83 5 44 p room s) R:=by repeat (first|with_reducible exact Ext.here|with_reducible apply Ext.there)):WC Tryz.prog m Q w0 n c L A:=fun a w hd hf hs hk=>by
 obtain⟨q,h1,h2⟩:=FD.1 (AS hE hs)
 exact k q.1 q.2.1 q.2.2 h1 a w hd hf h2 hk
theorem bL{m:Md}{K:Act ->World ->Prop}{w0:World}{n:Nat}{L:List (Nat × Value)}{A R:List Ao}{p:Nat}{room:Int}{s:Sv1}{kms:List KM}{ka:Option Nat}{kc:Nat}(hq:kms.map KM.e=s.l)(k:Ps m K w0 n L (Du 24 83 5 44 p room s::R))(hG:Gv A [cl p 24 [.int .i64 room,.int .i64 s.tick,sl ka kms.length kc],Aa ka kc 19 83 BH kms,star (CQ 5 44) kms] R:=by repeat (first|with_reducible exact Gv.nil|(with_reducible apply Gv.cons;· (repeat (first|with_reducible exact Ext.here|with_reducible apply Ext.there))))):Ps m K w0 n L A:=
 I3 (fun _ hs=>E5 kms ka kc hq (AS hG hs)) k

theorem al{kb b p:Nat}{room:Int}{s:Sv1}{a:AcQ}{X:Ao}{C:List Value}(hC:(C).length=10)(hq:((C).drop ((Bo a.on 2)*2)).take 2= [.pointer none,.pointer none]):Ct Tryz.prog 5 [.pointer (some ⟨kb,0,none⟩),(.agg (Cj a).toArray)] [cl kb 38 C] (fun _:Unit=>.bool true) (fun _=> [cl kb 38 C]):=by
 refine AY (n:=154) Tryz.func5 I I I fun F w0 Q hret hnorm hp=>?_
 change WC _ _ _ _ _ _ _ (_::F)
 have hkp:(Bo a.on 2)<2:=DO (by omega)
 refine A4 fun _ K1=>AB (Ay (xs:=Cj a) I I) I I I ?_
 rintro _ _ ⟨b3,rfl,rfl⟩
 refine wA I I<|A3 K1<|A4 fun _ K2=>A2 (A1 I Hw) I<|A2 (A6 I BF (v:=.int .i64 a.on) (hi:=GV a)) I<|AB (AE Pa I (hs:=GT (x:=a.on) (n:=2) (by omega) (by omega))) I I I ?_
 rintro _ _ ⟨⟨⟩,rfl,hA⟩
 simp only [ca] at hA
 subst hA
 refine wA I I<|A3 K2<|A4 fun _ K3=>wM I I<|wM I I<|A2 (A9 I) I<|A2 (A1 I FR) I<|A2 (Cu (Bo a.on 2) I I Jt F6 I (by omega)) I ?_
 refine A2 (AI (vs:= [.pointer none,.pointer none]) I IB (hl:=by rw [hC];omega) (hi:=by rw [Nat.zero_add];exact hq)) I ?_
 refine AB (AZ JH) I I I ?_
 rintro _ _ ⟨b6,rfl,rfl⟩
 refine AX (AV (ys:= [.pointer none,.pointer none]) I I F6 (h1:=by simp [BD,Value.cells,Value.oneCell']) (hr:=I)) I I ?_
 rintro _ _ rfl
 refine A3 K3<|A7 fun _ K4=>A4 fun _ K5=>A2 (A1 I Dh) I<|A2 (A6 I GN (v:=.pointer none)) I<|A2 (Fo I I IA) I ?_
 refine A3 K5<|Ad I<|A4 fun _ K6=>wA I I<|A3 K6<|AK ?_
 exact hret.gf () (BR rfl rfl)

theorem RV{kb b p:Nat}{room:Int}{s:Sv1}{a:AcQ}{X:Ao}{C:List Value}(hC:(C).length=10)(hq:((C).drop ((Bo a.on 2)*2)).take 2= [.pointer (some ⟨b,0,none⟩),.pointer (some ⟨p,0,none⟩)])(hk:a.kind=1)(hw:Wf room s)(hn:s.l.length<=90000000)(h1:s.tick<=a.at_)(h2:a.at_<=1099511627776):Ct Tryz.prog 5 [.pointer (some ⟨kb,0,none⟩),(.agg (Cj a).toArray)] [cl kb 38 C,Eu 90 102 5 b room s,Du 24 83 5 44 p room s,X] (fun _:Unit=>.bool true) (fun _=> [cl kb 38 C,Eu 90 102 5 b room ⟨a.at_,BW a.at_ s.l⟩,Du 24 83 5 44 p room ⟨a.at_,BW a.at_ s.l⟩,X]):=by
 refine AY (n:=154) Tryz.func5 I I I fun F w0 Q hret hnorm hp=>?_
 change WC _ _ _ _ _ _ _ (_::_::_::_::F)
 have hkp:(Bo a.on 2)<2:=DO (by omega)
 refine A4 fun _ K1=>AB (Ay (xs:=Cj a) I I) I I I ?_
 rintro _ _ ⟨b3,rfl,rfl⟩
 refine wA I I<|A3 K1<|A4 fun _ K2=>A2 (A1 I Hw) I<|A2 (A6 I BF (v:=.int .i64 a.on) (hi:=GV a)) I<|AB (AE Pa I (hs:=GT (x:=a.on) (n:=2) (by omega) (by omega))) I I I ?_
 rintro _ _ ⟨⟨⟩,rfl,hA⟩
 simp only [ca] at hA
 subst hA
 refine wA I I<|A3 K2<|A4 fun _ K3=>wM I I<|wM I I<|A2 (A9 I) I<|A2 (A1 I FR) I<|A2 (Cu (Bo a.on 2) I I Jt F6 I (by omega)) I ?_
 refine A2 (AI (vs:= [.pointer (some ⟨b,0,none⟩),.pointer (some ⟨p,0,none⟩)]) I IB (hl:=by rw [hC];omega) (hi:=by rw [Nat.zero_add];exact hq)) I ?_
 refine AB (AZ JH) I I I ?_
 rintro _ _ ⟨b6,rfl,rfl⟩
 refine AX (AV (ys:= [.pointer (some ⟨b,0,none⟩),.pointer (some ⟨p,0,none⟩)]) I I F6 (h1:=by simp [BD,Value.cells,Value.oneCell']) (hr:=I)) I I ?_
 rintro _ _ rfl
 refine A3 K3<|A7 fun _ K4=>A4 fun _ K5=>A2 (A1 I Dh) I<|A2 (A6 I GN (v:=.pointer (some ⟨b,0,none⟩))) I<|A2 (Fo I I IA) I ?_
 refine A3 K5<|AM I<|AA<|A5 K4<|A7 fun _ K6=>A4 fun _ K7=>A2 (A1 I IY) I<|A2 (AL (v:=.int .i64 1) (A6 I BF (v:=.int .i64 a.kind) (hi:=Ib a)) (by rw [hk])) I ?_
 refine A3 K7<|AG<|A4 fun _ K8=>A2 (Ab (i:=1) (j:=0) I I) I<|wA I I<|A3 K8<|AM I<|A4 fun _ K9=>A2 (Ab (i:=1) (j:=1) I I) I<|wA I I<|A3 K9<|Ad I<|A7 fun _ K10=>BC CE [cl b6 29 [.pointer (some ⟨b,0,none⟩),.pointer (some ⟨p,0,none⟩)],cl b3 49 (Cj a)] (fun i=>([2,2,2,2,1,2,2,2,2,1,2,2]:List Nat).getD i 0) ?_
 refine jP 0 I (A1 I Dh) I hp<|jT 1 I (A6 I GN (v:=.pointer (some ⟨b,0,none⟩))) I hp AQ<|jP 2 I (A1 I Kv) I hp<|jT 3 I (A6 I BF (v:=.int .i64 a.at_) (hi:=J8 a)) I hp AQ<|jP 5 I (A1 I Ev) I hp<|jT 6 I (A6 I JJ (v:=.pointer (some ⟨p,0,none⟩))) I hp AQ<|jP 7 I (A1 I Kv) I hp<|jT 8 I (A6 I BF (v:=.int .i64 a.at_) (hi:=J8 a)) I hp AQ<|jO 4<|B7 I (AE YA I (hs:=Vv (b:=b) (room:=room) (t:=a.at_) (s:=s) hw h1 h2)) I I I I ?_
 rintro _ _ ⟨⟨⟩,rfl,hA⟩
 simp only [ca] at hA
 subst hA
 refine⟨(fun _=>Bh),?_⟩
 refine jO 9<|B7 I (AE NM I (hs:=HS (p:=p) (room:=room) (t:=a.at_) (s:=s) hw (by omega) h1 h2)) I I I I ?_
 rintro _ _ ⟨⟨⟩,rfl,hA⟩
 simp only [ca] at hA
 subst hA
 refine⟨(fun _=>Bh),?_⟩
 refine jP 10 I (Ab (i:=0) (j:=0) I I) I hp<|jP 11 I (Ag I) I hp<|jD<|A5 K10<|AK ?_
 exact hret.gf () (BR rfl rfl)

theorem RX{kb b p:Nat}{room:Int}{s:Sv1}{a:AcQ}{X:Ao}{C:List Value}(hC:(C).length=10)(hq:((C).drop ((Bo a.on 2)*2)).take 2= [.pointer (some ⟨b,0,none⟩),.pointer (some ⟨p,0,none⟩)])(hk:a.kind=1)(hw:Wf room s)(hn:s.l.length<=90000000)(h1:a.at_<s.tick\/1099511627776<a.at_):Ct Tryz.prog 5 [.pointer (some ⟨kb,0,none⟩),(.agg (Cj a).toArray)] [cl kb 38 C,Eu 90 102 5 b room s,Du 24 83 5 44 p room s,X] (fun _:Unit=>.bool true) (fun _=> [cl kb 38 C,Eu 90 102 5 b room s,Du 24 83 5 44 p room s,X]):=by
 refine AY (n:=154) Tryz.func5 I I I fun F w0 Q hret hnorm hp=>?_
 change WC _ _ _ _ _ _ _ (_::_::_::_::F)
 have hkp:(Bo a.on 2)<2:=DO (by omega)
 refine A4 fun _ K1=>AB (Ay (xs:=Cj a) I I) I I I ?_
 rintro _ _ ⟨b3,rfl,rfl⟩
 refine wA I I<|A3 K1<|A4 fun _ K2=>A2 (A1 I Hw) I<|A2 (A6 I BF (v:=.int .i64 a.on) (hi:=GV a)) I<|AB (AE Pa I (hs:=GT (x:=a.on) (n:=2) (by omega) (by omega))) I I I ?_
 rintro _ _ ⟨⟨⟩,rfl,hA⟩
 simp only [ca] at hA
 subst hA
 refine wA I I<|A3 K2<|A4 fun _ K3=>wM I I<|wM I I<|A2 (A9 I) I<|A2 (A1 I FR) I<|A2 (Cu (Bo a.on 2) I I Jt F6 I (by omega)) I ?_
 refine A2 (AI (vs:= [.pointer (some ⟨b,0,none⟩),.pointer (some ⟨p,0,none⟩)]) I IB (hl:=by rw [hC];omega) (hi:=by rw [Nat.zero_add];exact hq)) I ?_
 refine AB (AZ JH) I I I ?_
 rintro _ _ ⟨b6,rfl,rfl⟩
 refine AX (AV (ys:= [.pointer (some ⟨b,0,none⟩),.pointer (some ⟨p,0,none⟩)]) I I F6 (h1:=by simp [BD,Value.cells,Value.oneCell']) (hr:=I)) I I ?_
 rintro _ _ rfl
 refine A3 K3<|A7 fun _ K4=>A4 fun _ K5=>A2 (A1 I Dh) I<|A2 (A6 I GN (v:=.pointer (some ⟨b,0,none⟩))) I<|A2 (Fo I I IA) I ?_
 refine A3 K5<|AM I<|AA<|A5 K4<|A7 fun _ K6=>A4 fun _ K7=>A2 (A1 I IY) I<|A2 (AL (v:=.int .i64 1) (A6 I BF (v:=.int .i64 a.kind) (hi:=Ib a)) (by rw [hk])) I ?_
 refine A3 K7<|AG<|A4 fun _ K8=>A2 (Ab (i:=1) (j:=0) I I) I<|wA I I<|A3 K8<|AM I<|A4 fun _ K9=>A2 (Ab (i:=1) (j:=1) I I) I<|wA I I<|A3 K9<|Ad I<|A7 fun _ K10=>BC CE [cl b6 29 [.pointer (some ⟨b,0,none⟩),.pointer (some ⟨p,0,none⟩)],cl b3 49 (Cj a)] (fun i=>([2,2,2,2,1,2,2,2,2,1,2,2]:List Nat).getD i 0) ?_
 refine jP 0 I (A1 I Dh) I hp<|jT 1 I (A6 I GN (v:=.pointer (some ⟨b,0,none⟩))) I hp AQ<|jP 2 I (A1 I Kv) I hp<|jT 3 I (A6 I BF (v:=.int .i64 a.at_) (hi:=J8 a)) I hp AQ<|jP 5 I (A1 I Ev) I hp<|jT 6 I (A6 I JJ (v:=.pointer (some ⟨p,0,none⟩))) I hp AQ<|jP 7 I (A1 I Kv) I hp<|jT 8 I (A6 I BF (v:=.int .i64 a.at_) (hi:=J8 a)) I hp AQ<|jO 4<|B7 I (AE YA I (hs:=Vu (b:=b) (room:=room) (t:=a.at_) (s:=s) h1)) I I I I ?_
 rintro _ _ ⟨⟨⟩,rfl,hA⟩
 simp only [ca] at hA
 subst hA
 refine⟨(fun _=>Bh),?_⟩
 refine jO 9<|B7 I (AE NM I (hs:=Q2 (p:=p) (room:=room) (t:=a.at_) (s:=s) h1)) I I I I ?_
 rintro _ _ ⟨⟨⟩,rfl,hA⟩
 simp only [ca] at hA
 subst hA
 refine⟨(fun _=>Bh),?_⟩
 refine jP 10 I (Ab (i:=191) (j:=191) I I) I hp<|jP 11 I (Ag I) I hp<|jD<|A5 K10<|AK ?_
 exact hret.gf () (BR rfl rfl)

theorem YL{kb b p:Nat}{room:Int}{s:Sv1}{a:AcQ}{X:Ao}{C:List Value}(hC:(C).length=10)(hq:((C).drop ((Bo a.on 2)*2)).take 2= [.pointer (some ⟨b,0,none⟩),.pointer (some ⟨p,0,none⟩)])(hk:a.kind≠0/\a.kind≠1/\a.kind≠2/\a.kind≠3/\a.kind≠4/\a.kind≠5)(hw:Wf room s)(hn:s.l.length<=90000000):Ct Tryz.prog 5 [.pointer (some ⟨kb,0,none⟩),(.agg (Cj a).toArray)] [cl kb 38 C,Eu 90 102 5 b room s,Du 24 83 5 44 p room s,X] (fun _:Unit=>.bool true) (fun _=> [cl kb 38 C,Eu 90 102 5 b room s,Du 24 83 5 44 p room s,X]):=by
 refine AY (n:=154) Tryz.func5 I I I fun F w0 Q hret hnorm hp=>?_
 change WC _ _ _ _ _ _ _ (_::_::_::_::F)
 have hkp:(Bo a.on 2)<2:=DO (by omega)
 refine A4 fun _ K1=>AB (Ay (xs:=Cj a) I I) I I I ?_
 rintro _ _ ⟨b3,rfl,rfl⟩
 refine wA I I<|A3 K1<|A4 fun _ K2=>A2 (A1 I Hw) I<|A2 (A6 I BF (v:=.int .i64 a.on) (hi:=GV a)) I<|AB (AE Pa I (hs:=GT (x:=a.on) (n:=2) (by omega) (by omega))) I I I ?_
 rintro _ _ ⟨⟨⟩,rfl,hA⟩
 simp only [ca] at hA
 subst hA
 refine wA I I<|A3 K2<|A4 fun _ K3=>wM I I<|wM I I<|A2 (A9 I) I<|A2 (A1 I FR) I<|A2 (Cu (Bo a.on 2) I I Jt F6 I (by omega)) I ?_
 refine A2 (AI (vs:= [.pointer (some ⟨b,0,none⟩),.pointer (some ⟨p,0,none⟩)]) I IB (hl:=by rw [hC];omega) (hi:=by rw [Nat.zero_add];exact hq)) I ?_
 refine AB (AZ JH) I I I ?_
 rintro _ _ ⟨b6,rfl,rfl⟩
 refine AX (AV (ys:= [.pointer (some ⟨b,0,none⟩),.pointer (some ⟨p,0,none⟩)]) I I F6 (h1:=by simp [BD,Value.cells,Value.oneCell']) (hr:=I)) I I ?_
 rintro _ _ rfl
 refine A3 K3<|A7 fun _ K4=>A4 fun _ K5=>A2 (A1 I Dh) I<|A2 (A6 I GN (v:=.pointer (some ⟨b,0,none⟩))) I<|A2 (Fo I I IA) I ?_
 refine A3 K5<|AM I<|AA<|A5 K4<|A7 fun _ K6=>A4 fun _ K7=>A2 (A1 I IY) I<|A2 (A6 I BF (v:=.int .i64 a.kind) (hi:=Ib a)) I<|A3 K7<|AG<|A4 fun _ K8=>A2 (CW I I) I<|wA I I<|A3 K8<|AH I (fun hc1=>?_) (fun hc1=>?_)
 ·try simp only [dz] at hc1
  exfalso
  omega
 try simp only [dz] at hc1
 refine A4 fun _ K9=>A2 (CW I I) I<|wA I I<|A3 K9<|AH I (fun hc2=>?_) (fun hc2=>?_)
 ·try simp only [dz] at hc2
  exfalso
  omega
 try simp only [dz] at hc2
 refine A4 fun _ K10=>A2 (CW I I) I<|wA I I<|A3 K10<|AH I (fun hc3=>?_) (fun hc3=>?_)
 ·try simp only [dz] at hc3
  exfalso
  omega
 try simp only [dz] at hc3
 refine A4 fun _ K11=>A2 (CW I I) I<|wA I I<|A3 K11<|AH I (fun hc4=>?_) (fun hc4=>?_)
 ·try simp only [dz] at hc4
  exfalso
  omega
 try simp only [dz] at hc4
 refine A4 fun _ K12=>A2 (CW I I) I<|wA I I<|A3 K12<|AH I (fun hc5=>?_) (fun hc5=>?_)
 ·try simp only [dz] at hc5
  exfalso
  omega
 try simp only [dz] at hc5
 refine A4 fun _ K13=>A2 (CW I I) I<|wA I I<|A3 K13<|AH I (fun hc6=>?_) (fun hc6=>?_)
 ·try simp only [dz] at hc6
  exfalso
  omega
 try simp only [dz] at hc6
 refine AA<|A5 K6<|A7 fun _ K14=>BC CE [cl b6 29 [.pointer (some ⟨b,0,none⟩),.pointer (some ⟨p,0,none⟩)],cl b3 49 (Cj a)] (fun i=>([2,2,1,2,2,1,2,2]:List Nat).getD i 0) ?_
 refine jP 0 I (A1 I Dh) I hp<|jT 1 I (A6 I GN (v:=.pointer (some ⟨b,0,none⟩))) I hp AQ<|jP 3 I (A1 I Ev) I hp<|jT 4 I (A6 I JJ (v:=.pointer (some ⟨p,0,none⟩))) I hp AQ<|jO 2<|B7 I (AE cf30 I (hs:=Vl (b:=b) (room:=room) (s:=s))) I I I I ?_
 rintro _ _ ⟨⟨⟩,rfl,hA⟩
 simp only [ca] at hA
 subst hA
 refine⟨(fun _=>Bh),?_⟩
 refine jO 5<|B7 I (AE Y9 I (hs:=Vk (p:=p) (room:=room) (s:=s) hw (by omega))) I I I I ?_
 rintro _ _ ⟨⟨⟩,rfl,hA⟩
 simp only [ca] at hA
 subst hA
 refine⟨(fun _=>Bh),?_⟩
 refine jP 6 I (AL (v:=.bool true) (CW I I) (by simp)) I hp<|jP 7 I (Ag I) I hp<|jD<|A5 K14<|AK ?_
 exact hret.gf () (BR rfl rfl)
end Go.Proofs.YtoakfknnaiapiaaGreat
namespace Go.Proofs.YtoakfknnaiapiaaGreat
open Go.RowKit Go.SL Go.ShM Go.SvM
set_option maxHeartbeats 1000000
set_option maxRecDepth 20000
set_option linter.all false
theorem eA:DF Tryz.prog 11=true:=by kernel_rfl
theorem cf20:DF Tryz.prog 20=true:=by kernel_rfl
theorem cf24:DF Tryz.prog 24=true:=by kernel_rfl
theorem cf27:DF Tryz.prog 27=true:=by kernel_rfl
theorem fa:el Tryz.prog 24=some (3,40):=by kernel_rfl
theorem Kw:fo Tryz.prog 38 1=some (4,34):=by kernel_rfl
theorem PO:fo Tryz.prog 38 2=some (5,34):=by kernel_rfl
theorem f4:sz Tryz.prog 34=some 1:=by kernel_rfl
theorem Q1:tk Tryz.prog 34=some none:=by kernel_rfl
theorem eH{kb b p:Nat}{room:Int}{s:Sv1}{a:AcQ}{X:Ao}{rp:Rp}{er:Int}{s2:Sv1}{c0 c1 c2 c3 g5 w5:Value}{hs:List PB}{ms:List Pt}{is:List PI}{zs:List KI}{ha ma ia za:Option Nat}{hc mc ic zc:Nat}(hC:([c0,c1,c2,c3,g5,w5,sl ha hs.length hc,sl ma ms.length mc,sl ia is.length ic,sl za zs.length zc]).length=10)(hq:(([c0,c1,c2,c3,g5,w5,sl ha hs.length hc,sl ma ms.length mc,sl ia is.length ic,sl za zs.length zc]).drop ((Bo a.on 2)*2)).take 2= [.pointer (some ⟨b,0,none⟩),.pointer (some ⟨p,0,none⟩)])(hk:a.kind=0)(hw:Wf room s)(hn:s.l.length<=90000000)(hB:Sv [X] a.r.b.v 1 (eU .u8 (w:=8)) a.r.b.l a.r.b.ao a.r.b.cap)(hbl:a.r.b.l.length<=1000000)(hcm:Eg room s a.at_ a.r=(rp,er,s2))(hhl:hs.length<=100000000)(hml:ms.length<=100000000)(hil:is.length<=100000000)(hzl:zs.length<=100000000):Ct Tryz.prog 5 [.pointer (some ⟨kb,0,none⟩),(.agg (Cj a).toArray)] [cl kb 38 [c0,c1,c2,c3,g5,w5,sl ha hs.length hc,sl ma ms.length mc,sl ia is.length ic,sl za zs.length zc],Aa ha hc 1 45 Hj hs,Aa ma mc 1 45 fP ms,Aa ia ic 1 79 No is,Aa za zc 1 79 Rv zs,Eu 90 102 5 b room s,Du 24 83 5 44 p room s,X] (fun g:DoneG rp=>.bool true) (fun g=> [cl kb 38 [c0,c1,c2,c3,g5,w5,sl g.ha (hs++ [(⟨g.ba,g.bc,rp.bs⟩:PB)]).length g.hc,sl g.ma (ms++ [(⟨rp.bs,g.ba2,g.bc2⟩:Pt)]).length g.mc,sl g.ia (is++ [(⟨g.na,g.nc,rp.ns⟩:PI)]).length g.ic,sl g.za (zs++ [(⟨rp.ns.length,g.na2,g.nc2⟩:KI)]).length g.zc],Aa g.ha g.hc 1 45 Hj (hs++ [(⟨g.ba,g.bc,rp.bs⟩:PB)]),Aa g.ma g.mc 1 45 fP (ms++ [(⟨rp.bs,g.ba2,g.bc2⟩:Pt)]),Aa g.ia g.ic 1 79 No (is++ [(⟨g.na,g.nc,rp.ns⟩:PI)]),Aa g.za g.zc 1 79 Rv (zs++ [(⟨rp.ns.length,g.na2,g.nc2⟩:KI)]),Eu 90 102 5 b room s2,Du 24 83 5 44 p room s2,X,Aa g.na g.nc 1 3 eI rp.ns,Aa g.ba g.bc 1 5 (eU .u8 (w:=8)) rp.bs,g.GX]):=by
 refine AY (n:=154) Tryz.func5 I I I fun F w0 Q hret hnorm hp=>?_
 change WC _ _ _ _ _ _ _ (_::_::_::_::_::_::_::_::F)
 have hkp:(Bo a.on 2)<2:=DO (by omega)
 refine A4 fun _ K1=>AB (Ay (xs:=Cj a) I I) I I I ?_
 rintro _ _ ⟨b3,rfl,rfl⟩
 refine wA I I<|A3 K1<|A4 fun _ K2=>A2 (A1 I Hw) I<|A2 (A6 I BF (v:=.int .i64 a.on) (hi:=GV a)) I<|AB (AE Pa I (hs:=GT (x:=a.on) (n:=2) (by omega) (by omega))) I I I ?_
 rintro _ _ ⟨⟨⟩,rfl,hA⟩
 simp only [ca] at hA
 subst hA
 refine wA I I<|A3 K2<|A4 fun _ K3=>wM I I<|wM I I<|A2 (A9 I) I<|A2 (A1 I FR) I<|A2 (Cu (Bo a.on 2) I I Jt F6 I (by omega)) I ?_
 refine A2 (AI (vs:= [.pointer (some ⟨b,0,none⟩),.pointer (some ⟨p,0,none⟩)]) I IB (hl:=by rw [hC];omega) (hi:=by rw [Nat.zero_add];exact hq)) I ?_
 refine AB (AZ JH) I I I ?_
 rintro _ _ ⟨b6,rfl,rfl⟩
 refine AX (AV (ys:= [.pointer (some ⟨b,0,none⟩),.pointer (some ⟨p,0,none⟩)]) I I F6 (h1:=by simp [BD,Value.cells,Value.oneCell']) (hr:=I)) I I ?_
 rintro _ _ rfl
 refine A3 K3<|A7 fun _ K4=>A4 fun _ K5=>A2 (A1 I Dh) I<|A2 (A6 I GN (v:=.pointer (some ⟨b,0,none⟩))) I<|A2 (Fo I I IA) I ?_
 refine A3 K5<|AM I<|AA<|A5 K4<|A7 fun _ K6=>A4 fun _ K7=>A2 (A1 I IY) I<|A2 (AL (v:=.int .i64 0) (A6 I BF (v:=.int .i64 a.kind) (hi:=Ib a)) (by rw [hk])) I ?_
 refine A3 K7<|AG<|A4 fun _ K8=>A2 (Ab (i:=0) (j:=0) I I) I<|wA I I<|A3 K8<|Ad I<|A4 fun _ K9=>wM I I<|A2 (AI (vs:= [.pointer (some ⟨b,0,none⟩),.pointer (some ⟨p,0,none⟩)]) I IB) I<|A2 (AI (vs:=Cj a) I cV (hl:=by rw [Ee];omega) (hi:=RF a)) I ?_
 refine AB (AE cf20 I (hs:=aC (kb:=kb) (b:=b) (p:=p) (room:=room) (s:=s) (s2:=s2) (a:=a) (rp:=rp) (er:=er) (X:=X) hw (by omega) hB hbl hcm hhl hml hil hzl)) I I I ?_
 rintro _ _ ⟨g,rfl,hA⟩
 simp only [ca] at hA
 subst hA
 refine wA I I<|A3 K9<|AK ?_
 exact hret.gf g (BR rfl rfl)

theorem VS{kb b p:Nat}{room:Int}{s:Sv1}{a:AcQ}{X:Ao}{C:List Value}(hC:(C).length=10)(hq:((C).drop ((Bo a.on 2)*2)).take 2= [.pointer (some ⟨b,0,none⟩),.pointer (some ⟨p,0,none⟩)])(hk:a.kind=2)(hw:Wf room s)(hn:s.l.length<=90000000)(hB:Sv [X] a.r.b.v 1 (eU .u8 (w:=8)) a.r.b.l a.r.b.ao a.r.b.cap)(hbl:a.r.b.l.length<=1000000):Ct Tryz.prog 5 [.pointer (some ⟨kb,0,none⟩),(.agg (Cj a).toArray)] [cl kb 38 C,Eu 90 102 5 b room s,Du 24 83 5 44 p room s,X] (fun _:Unit=>.bool true) (fun _=> [cl kb 38 C,Eu 90 102 5 b room ⟨s.tick,(Pv (a.r.ix,a.r.num) a.r.b.l s.l).2⟩,Du 24 83 5 44 p room ⟨s.tick,(Pv (a.r.ix,a.r.num) a.r.b.l s.l).2⟩,X]):=by
 refine AY (n:=154) Tryz.func5 I I I fun F w0 Q hret hnorm hp=>?_
 change WC _ _ _ _ _ _ _ (_::_::_::_::F)
 have hkp:(Bo a.on 2)<2:=DO (by omega)
 refine A4 fun _ K1=>AB (Ay (xs:=Cj a) I I) I I I ?_
 rintro _ _ ⟨b3,rfl,rfl⟩
 refine wA I I<|A3 K1<|A4 fun _ K2=>A2 (A1 I Hw) I<|A2 (A6 I BF (v:=.int .i64 a.on) (hi:=GV a)) I<|AB (AE Pa I (hs:=GT (x:=a.on) (n:=2) (by omega) (by omega))) I I I ?_
 rintro _ _ ⟨⟨⟩,rfl,hA⟩
 simp only [ca] at hA
 subst hA
 refine wA I I<|A3 K2<|A4 fun _ K3=>wM I I<|wM I I<|A2 (A9 I) I<|A2 (A1 I FR) I<|A2 (Cu (Bo a.on 2) I I Jt F6 I (by omega)) I ?_
 refine A2 (AI (vs:= [.pointer (some ⟨b,0,none⟩),.pointer (some ⟨p,0,none⟩)]) I IB (hl:=by rw [hC];omega) (hi:=by rw [Nat.zero_add];exact hq)) I ?_
 refine AB (AZ JH) I I I ?_
 rintro _ _ ⟨b6,rfl,rfl⟩
 refine AX (AV (ys:= [.pointer (some ⟨b,0,none⟩),.pointer (some ⟨p,0,none⟩)]) I I F6 (h1:=by simp [BD,Value.cells,Value.oneCell']) (hr:=I)) I I ?_
 rintro _ _ rfl
 refine A3 K3<|A7 fun _ K4=>A4 fun _ K5=>A2 (A1 I Dh) I<|A2 (A6 I GN (v:=.pointer (some ⟨b,0,none⟩))) I<|A2 (Fo I I IA) I ?_
 refine A3 K5<|AM I<|AA<|A5 K4<|A7 fun _ K6=>A4 fun _ K7=>A2 (A1 I IY) I<|A2 (AL (v:=.int .i64 2) (A6 I BF (v:=.int .i64 a.kind) (hi:=Ib a)) (by rw [hk])) I ?_
 refine A3 K7<|AG<|A4 fun _ K8=>A2 (Ab (i:=2) (j:=0) I I) I<|wA I I<|A3 K8<|AM I<|A4 fun _ K9=>A2 (Ab (i:=2) (j:=1) I I) I<|wA I I<|A3 K9<|AM I<|A4 fun _ K10=>A2 (Ab (i:=2) (j:=2) I I) I<|wA I I ?_
 refine A3 K10<|Ad I<|A4 fun _ K11=>A2 (A1 I Eb) I<|A2 (A1 I CG) I<|A2 (A6 I Bg (v:=a.r.b.v) (hi:=Jn a)) I<|AB (AE e9 I (hs:=P1 (X:=X) (l:=a.r.b.l) (hS:=hB))) I I I ?_
 rintro _ _ ⟨⟨a8,c8⟩,rfl,hA⟩
 simp only [ca] at hA
 subst hA
 refine Cl (fun w h=>B1 (a:=a8) (cap:=c8) (e:=1) (T:=5) (f:=(eU .u8 (w:=8))) (l:=(DC a.r.b.l)) Bf h) (fun hFf=>?_)
 have hFc:=hFf.2
 rw [Hg] at hFc
 have hF:Sv [Aa a8 c8 1 5 (eU .u8 (w:=8)) (DC a.r.b.l)] (sl a8 (DC a.r.b.l).length c8) 1 (eU .u8 (w:=8)) (DC a.r.b.l) (a8.map fun g=>⟨g,0,none⟩) c8:=BM (Em .u8 (w:=8)) hFf.1 hFf.2
 have hFs:Sv [Aa a8 c8 1 5 (eU .u8 (w:=8)) (DC a.r.b.l)] (sl a8 a.r.b.l.length c8) 1 (eU .u8 (w:=8)) a.r.b.l (a8.map fun g=>⟨g,0,none⟩) c8:=Sx (Em .u8 (w:=8)) (List.prefix_append _ _) hFf.1 hFf.2
 have hLl:=Hg a.r.b.l
 refine wA I I<|A3 K11<|A7 fun _ K12=>BC CE [cl b6 29 [.pointer (some ⟨b,0,none⟩),.pointer (some ⟨p,0,none⟩)],cl b3 49 (Cj a)] (fun i=>([2,2,2,2,2,2,2,2,2,2,2,2,2,2,1,2]:List Nat).getD i 0) ?_
 refine jP 0 I (A1 I Dh) I hp<|jT 1 I (A6 I GN (v:=.pointer (some ⟨b,0,none⟩))) I hp AQ<|jP 2 I (A1 I Eb) I hp<|jP 3 I (A1 I CU) I hp<|jT 4 I (AI (vs:=a.r.ix.l.flatMap (eU .u8)) I Cv (hl:=by rw [Ee];omega) (hi:=J7 a)) I hp AQ ?_
 refine jP 5 I (A1 I Eb) I hp<|jP 6 I (A1 I Bq) I hp<|jT 7 I (A6 I BF (v:=.int .i64 a.r.num) (hi:=RE a)) I hp AQ<|jM 8 I I I hp<|jP 9 I (A1 I Eb) I hp<|jP 10 I (A1 I CG) I hp<|jT 11 I (A6 I Bg (v:=a.r.b.v) (hi:=Jn a)) I hp AQ<|jP 12 I (AL (v:=.int .i64 ((a.r.b.l.length:Nat):Int)) (BA I I BQ) I) I hp<|jP 13 I (LZ a.r.b.l.length I I BQ Ki (hi:=by omega)) I hp ?_
 refine jO 14<|B7 I (AE cf24 I (hs:=UP (b:=b) (room:=room) (s:=s) (ix:=a.r.ix) (num:=a.r.num) (w:=(⟨a.r.b.l,a8.map fun g=>⟨g,0,none⟩,c8⟩:VW)) (Y:=Aa a8 c8 1 5 (eU .u8 (w:=8)) (DC a.r.b.l)) hw hFs (by show a.r.b.l.length<=_;omega))) I I I I ?_
 rintro _ _ ⟨⟨⟩,rfl,hA⟩
 simp only [ca] at hA
 subst hA
 refine⟨(fun _=>Bh),?_⟩
 refine jP 15 I (Ag I) I hp<|jD<|A5 K12<|A4 fun _ K13=>wM I I<|A2 (A1 I Eb) I<|A2 (A1 I CG) I<|A2 (A6 I Bg (v:=a.r.b.v) (hi:=Jn a)) I<|AB (AE fq I (hs:=Ct.un0 (Xs:= [Aa a8 c8 1 5 (eU .u8 (w:=8)) (DC a.r.b.l),X]) (TW (X:=F7 [Aa a8 c8 1 5 (eU .u8 (w:=8)) (DC a.r.b.l),X]) (l:=(DC a.r.b.l)) (l':=a.r.b.l) (hS:=hF.pk Has.here) (hS':=hB.pk (Has.there Has.here)) (hl:=by omega) (hl':=by omega)))) I I I ?_
 rintro _ _ ⟨⟨⟩,rfl,hA⟩
 simp only [ca] at hA
 subst hA
 rw [show decide ((DC a.r.b.l)=(DC a.r.b.l))=true from decide_eq_true rfl]
 refine wA I I<|A3 K13<|A4 fun _ K14=>wM I I<|AB (AE e8 I (hs:=Ot (l:=(DC a.r.b.l)) (a:=a8) (cap:=c8) (hl:=by omega))) I I I ?_
 rintro _ _ ⟨⟨⟩,rfl,hA⟩
 simp only [ca] at hA
 subst hA
 refine A3 K14<|A4 fun _ K15=>wM I I<|wM I I<|wM I I<|A2 (A1 I Ev) I<|A2 (A6 I JJ (v:=.pointer (some ⟨p,0,none⟩))) I<|A2 (A1 I Eb) I<|A2 (A1 I CU) I<|A2 (AI (vs:=a.r.ix.l.flatMap (eU .u8)) I Cv (hl:=by rw [Ee];omega) (hi:=J7 a)) I ?_
 refine A2 (A1 I Eb) I<|A2 (A1 I Bq) I<|A2 (A6 I BF (v:=.int .i64 a.r.num) (hi:=RE a)) I<|A2 (A1 I Eb) I<|A2 (A1 I CG) I<|A2 (A6 I Bg (v:=a.r.b.v) (hi:=Jn a)) I<|AB (AE cf27 I (hs:=UO (p:=p) (room:=room) (s:=s) (ix:=a.r.ix) (num:=a.r.num) (w:=(⟨a.r.b.l,a.r.b.ao,a.r.b.cap⟩:VW)) (Y:=X) hw (by omega) hB (by show a.r.b.l.length<=_;omega))) I I I ?_
 rintro _ _ ⟨⟨⟩,rfl,hA⟩
 simp only [ca] at hA
 subst hA
 refine A2 (AL (v:=.bool true) (CW I I) (by simp)) I<|A2 (AC I I) I<|wA I I<|A3 K15<|AK ?_
 exact hret.gf () (BR rfl rfl)

theorem VR{kb b p:Nat}{room:Int}{s:Sv1}{a:AcQ}{X:Ao}{c0 c1 c2 c3 h6 h7 h8 h9:Value}{gs ws:List GS}{ga wa:Option Nat}{gc wc:Nat}(hC:([c0,c1,c2,c3,sl ga gs.length gc,sl wa ws.length wc,h6,h7,h8,h9]).length=10)(hq:(([c0,c1,c2,c3,sl ga gs.length gc,sl wa ws.length wc,h6,h7,h8,h9]).drop ((Bo a.on 2)*2)).take 2= [.pointer (some ⟨b,0,none⟩),.pointer (some ⟨p,0,none⟩)])(hk:a.kind=4)(hw:Wf room s)(hn:s.l.length<=90000000)(hgl:gs.length<=100000000)(hwl:ws.length<=100000000):Ct Tryz.prog 5 [.pointer (some ⟨kb,0,none⟩),(.agg (Cj a).toArray)] [cl kb 38 [c0,c1,c2,c3,sl ga gs.length gc,sl wa ws.length wc,h6,h7,h8,h9],Aa ga gc 3 24 GG gs,Aa wa wc 3 24 GG ws,Eu 90 102 5 b room s,Du 24 83 5 44 p room s,X] (fun g: {g:(List KM × Option Nat × Nat) × (List KM × Option Nat × Nat) × (Option Nat × Nat) × (Option Nat × Nat) // g.1.1.map KM.e=s.l/\g.2.1.1.map KM.e=s.l} =>.bool true) (fun g=> [cl kb 38 [c0,c1,c2,c3,sl g.1.2.2.1.1 (gs++ [(⟨room,s.tick,⟨g.1.1.2.1,g.1.1.2.2,g.1.1.1⟩⟩:GS)]).length g.1.2.2.1.2,sl g.1.2.2.2.1 (ws++ [(⟨room,s.tick,⟨g.1.2.1.2.1,g.1.2.1.2.2,g.1.2.1.1⟩⟩:GS)]).length g.1.2.2.2.2,h6,h7,h8,h9],Aa g.1.2.2.1.1 g.1.2.2.1.2 3 24 GG (gs++ [(⟨room,s.tick,⟨g.1.1.2.1,g.1.1.2.2,g.1.1.1⟩⟩:GS)]),Aa g.1.2.2.2.1 g.1.2.2.2.2 3 24 GG (ws++ [(⟨room,s.tick,⟨g.1.2.1.2.1,g.1.2.1.2.2,g.1.2.1.1⟩⟩:GS)]),Eu 90 102 5 b room s,Du 24 83 5 44 p room s,X,Aa g.1.1.2.1 g.1.1.2.2 19 83 BH g.1.1.1,star (CQ 5 44) g.1.1.1,Aa g.1.2.1.2.1 g.1.2.1.2.2 19 83 BH g.1.2.1.1,star (CQ 5 44) g.1.2.1.1]):=by
 refine AY (n:=154) Tryz.func5 I I I fun F w0 Q hret hnorm hp=>?_
 change WC _ _ _ _ _ _ _ (_::_::_::_::_::_::F)
 have hkp:(Bo a.on 2)<2:=DO (by omega)
 refine gQ fun kms2 ka2 kc2 hkq=>?_
 have hk2l:kms2.length=s.l.length:=by have q:=congrArg List.length hkq;rw [List.length_map] at q;exact q
 refine Bu (fun w h=>FA (kms:=kms2) (ka:=ka2) (kc:=kc2) Bf Bf h) (fun hov=>?_)
 obtain⟨hoV,hoO⟩:=hov
 have hoe:(kms2.map KM.kv).map KV.kp=s.l:=by rw [CO];exact hkq
 refine A4 fun _ K1=>AB (Ay (xs:=Cj a) I I) I I I ?_
 rintro _ _ ⟨b3,rfl,rfl⟩
 refine wA I I<|A3 K1<|A4 fun _ K2=>A2 (A1 I Hw) I<|A2 (A6 I BF (v:=.int .i64 a.on) (hi:=GV a)) I<|AB (AE Pa I (hs:=GT (x:=a.on) (n:=2) (by omega) (by omega))) I I I ?_
 rintro _ _ ⟨⟨⟩,rfl,hA⟩
 simp only [ca] at hA
 subst hA
 refine wA I I<|A3 K2<|A4 fun _ K3=>wM I I<|wM I I<|A2 (A9 I) I<|A2 (A1 I FR) I<|A2 (Cu (Bo a.on 2) I I Jt F6 I (by omega)) I ?_
 refine A2 (AI (vs:= [.pointer (some ⟨b,0,none⟩),.pointer (some ⟨p,0,none⟩)]) I IB (hl:=by rw [hC];omega) (hi:=by rw [Nat.zero_add];exact hq)) I ?_
 refine AB (AZ JH) I I I ?_
 rintro _ _ ⟨b6,rfl,rfl⟩
 refine AX (AV (ys:= [.pointer (some ⟨b,0,none⟩),.pointer (some ⟨p,0,none⟩)]) I I F6 (h1:=by simp [BD,Value.cells,Value.oneCell']) (hr:=I)) I I ?_
 rintro _ _ rfl
 refine A3 K3<|A7 fun _ K4=>A4 fun _ K5=>A2 (A1 I Dh) I<|A2 (A6 I GN (v:=.pointer (some ⟨b,0,none⟩))) I<|A2 (Fo I I IA) I ?_
 refine A3 K5<|AM I<|AA<|A5 K4<|A7 fun _ K6=>A4 fun _ K7=>A2 (A1 I IY) I<|A2 (AL (v:=.int .i64 4) (A6 I BF (v:=.int .i64 a.kind) (hi:=Ib a)) (by rw [hk])) I ?_
 refine A3 K7<|AG<|A4 fun _ K8=>A2 (Ab (i:=4) (j:=0) I I) I<|wA I I<|A3 K8<|AM I<|A4 fun _ K9=>A2 (Ab (i:=4) (j:=1) I I) I<|wA I I<|A3 K9<|AM I<|A4 fun _ K10=>A2 (Ab (i:=4) (j:=2) I I) I<|wA I I ?_
 refine A3 K10<|AM I<|A4 fun _ K11=>A2 (Ab (i:=4) (j:=3) I I) I<|wA I I<|A3 K11<|AM I<|A4 fun _ K12=>A2 (Ab (i:=4) (j:=4) I I) I<|wA I I<|A3 K12<|Ad I<|A7 fun _ K13=>BC CE [cl kb 38 [c0,c1,c2,c3,sl ga gs.length gc,sl wa ws.length wc,h6,h7,h8,h9],cl b6 29 [.pointer (some ⟨b,0,none⟩),.pointer (some ⟨p,0,none⟩)]] (fun i=>([2,2,2,2,2,2,2,1,1,1,2,2,0]:List Nat).getD i 0) ?_
 refine jM 0 I I I hp<|jM 1 I I I hp<|jP 2 I (A9 I) I hp<|jP 3 I (A1 I Kw) I hp<|jT 4 I (A6 I Q1 (v:=sl ga gs.length gc)) I hp AQ<|jP 5 I (A1 I Dh) I hp<|jT 6 I (A6 I GN (v:=.pointer (some ⟨b,0,none⟩))) I hp AQ<|jO 7<|B7 I (AE eA I (hs:=Kk (b:=b) (room:=room) (s:=s) hw (by omega))) I I I I ?_
 rintro _ _ ⟨⟨⟨kms4,a4,c4⟩,hk4⟩,rfl,hA⟩
 simp only [ca] at hA
 subst hA
 refine⟨(fun _=>Bh),?_⟩
 refine jO 8<|B7 I (Br (xs:=GG (⟨room,s.tick,⟨a4,c4,kms4⟩⟩:GS)) I GM MJ Gx (hl:=encGS.len _)) I I I I ?_
 rintro _ _ ⟨b105,rfl,rfl⟩
 refine⟨(fun _=>Bh),?_⟩
 refine jO 9<|B7 I (B6 (f:=GG) encGS (⟨room,s.tick,⟨a4,c4,kms4⟩⟩:GS) I I GM GM fa) I I I I ?_
 rintro _ _ ⟨ga6,gc6,rfl,rfl⟩
 rw [show gs.length+1=(gs++ [(⟨room,s.tick,⟨a4,c4,kms4⟩⟩:GS)]).length from by rw [List.length_append];rfl]
 refine⟨(fun _=>Bh),?_⟩
 refine jP 10 I (A9 I) I hp<|jP 11 I (A1 I Kw) I hp<|jO 12<|EN I (Ar (ys:= [c0,c1,c2,c3,sl ga6 (gs++ [(⟨room,s.tick,⟨a4,c4,kms4⟩⟩:GS)]).length gc6,sl wa ws.length wc,h6,h7,h8,h9]) I I f4 (hr:=I)) I ?_
 rintro _ _ rfl
 refine jD<|A5 K13<|A7 fun _ K14=>BC CE [cl kb 38 [c0,c1,c2,c3,sl ga6 (gs++ [(⟨room,s.tick,⟨a4,c4,kms4⟩⟩:GS)]).length gc6,sl wa ws.length wc,h6,h7,h8,h9],cl b6 29 [.pointer (some ⟨b,0,none⟩),.pointer (some ⟨p,0,none⟩)],cl p 24 [.int .i64 room,.int .i64 s.tick,sl ka2 kms2.length kc2]] (fun i=>([2,2,2,2,2,2,2,2,2,1,1,1,2,2,0]:List Nat).getD i 0) ?_
 refine jM 0 I I I hp<|jM 1 I I I hp<|jP 2 I (A9 I) I hp<|jP 3 I (A1 I PO) I hp<|jT 4 I (A6 I Q1 (v:=sl wa ws.length wc)) I hp AQ<|jP 5 I (A1 I Ev) I hp<|jT 6 I (A6 I JJ (v:=.pointer (some ⟨p,0,none⟩))) I hp AQ<|jP 7 I (A9 I) I hp<|jT 8 I (AI (vs:= [.int .i64 room,.int .i64 s.tick,sl ka2 kms2.length kc2]) I Fv) I hp AQ<|jO 9<|B7 I (AE fp I (hs:=Ct.un0 (Xs:= [Aa ka2 kc2 19 83 BH kms2,star (CQ 5 44) kms2]) (NJ (X:=F7 [Aa ka2 kc2 19 83 BH kms2,star (CQ 5 44) kms2]) (kvs:=kms2.map KM.kv) (room:=room) (tick:=s.tick) (hV:=hoV.pk Has.here) (hOK:=fun k hk=>⟨(hoO k hk).1.pk (Has.there Has.here),(hoO k hk).2.pk (Has.there Has.here)⟩) (hn:=by rw [List.length_map];omega) (hbb:=hw.bl hoe) (hlb:=hw.lsl hoe)))) I I I I ?_
 rintro _ _ ⟨⟨⟨kms5,a5,c5⟩,hk5⟩,rfl,hA⟩
 simp only [ca] at hA
 subst hA
 refine⟨(fun _=>Bh),?_⟩
 refine jO 10<|B7 I (Br (xs:=GG (⟨room,s.tick,⟨a5,c5,kms5⟩⟩:GS)) I GM MJ Gx (hl:=encGS.len _)) I I I I ?_
 rintro _ _ ⟨b119,rfl,rfl⟩
 refine⟨(fun _=>Bh),?_⟩
 refine jO 11<|B7 I (B6 (f:=GG) encGS (⟨room,s.tick,⟨a5,c5,kms5⟩⟩:GS) I I GM GM fa) I I I I ?_
 rintro _ _ ⟨wa7,wc7,rfl,rfl⟩
 rw [show ws.length+1=(ws++ [(⟨room,s.tick,⟨a5,c5,kms5⟩⟩:GS)]).length from by rw [List.length_append];rfl]
 refine⟨(fun _=>Bh),?_⟩
 refine jP 12 I (A9 I) I hp<|jP 13 I (A1 I PO) I hp<|jO 14<|EN I (Ar (ys:= [c0,c1,c2,c3,sl ga6 (gs++ [(⟨room,s.tick,⟨a4,c4,kms4⟩⟩:GS)]).length gc6,sl wa7 (ws++ [(⟨room,s.tick,⟨a5,c5,kms5⟩⟩:GS)]).length wc7,h6,h7,h8,h9]) I I f4 (hr:=I)) I ?_
 rintro _ _ rfl
 refine jD<|A5 K14<|A4 fun _ K15=>wA I I<|A3 K15<|AK<|bL (p:=p) (room:=room) (s:=s) hkq ?_
 exact hret.gf ⟨((kms4,a4,c4),(kms5,a5,c5),(ga6,gc6),(wa7,wc7)),hk4,hk5.trans hoe⟩ (BR rfl rfl)
end Go.Proofs.YtoakfknnaiapiaaGreat
namespace Go.Proofs.YtoakfknnaiapiaaGreat
open Go.RowKit Go.SL Go.ShM Go.SvM
set_option maxHeartbeats 1000000
set_option maxRecDepth 20000
set_option linter.all false
theorem cf4:DF Tryz.prog 4=true:=by kernel_rfl
theorem sz26:sz Tryz.prog 26=some 1:=by kernel_rfl
theorem YO{kb b p:Nat}{room:Int}{s:Sv1}{a:AcQ}{X:Ao}{C:List Value}(hC:(C).length=10)(hq:((C).drop ((Bo a.on 2)*2)).take 2= [.pointer (some ⟨b,0,none⟩),.pointer (some ⟨p,0,none⟩)])(hk:a.kind=5)(hw:Wf room s)(hn:s.l.length<=90000000):Ct Tryz.prog 5 [.pointer (some ⟨kb,0,none⟩),(.agg (Cj a).toArray)] [cl kb 38 C,Eu 90 102 5 b room s,Du 24 83 5 44 p room s,X] (fun g:Nat=>.bool true) (fun g=> [cl kb 38 (C.set ((Bo a.on 2)*2) (.pointer (some ⟨g,0,none⟩))),Eu 90 102 5 g room s,Du 24 83 5 44 p room s,X]):=by
 refine AY (n:=154) Tryz.func5 I I I fun F w0 Q hret hnorm hp=>?_
 change WC _ _ _ _ _ _ _ (_::_::_::_::F)
 have hkp:(Bo a.on 2)<2:=DO (by omega)
 refine A4 fun _ K1=>AB (Ay (xs:=Cj a) I I) I I I ?_
 rintro _ _ ⟨b3,rfl,rfl⟩
 refine wA I I<|A3 K1<|A4 fun _ K2=>A2 (A1 I Hw) I<|A2 (A6 I BF (v:=.int .i64 a.on) (hi:=GV a)) I<|AB (AE Pa I (hs:=GT (x:=a.on) (n:=2) (by omega) (by omega))) I I I ?_
 rintro _ _ ⟨⟨⟩,rfl,hA⟩
 simp only [ca] at hA
 subst hA
 refine wA I I<|A3 K2<|A4 fun _ K3=>wM I I<|wM I I<|A2 (A9 I) I<|A2 (A1 I FR) I<|A2 (Cu (Bo a.on 2) I I Jt F6 I (by omega)) I ?_
 refine A2 (AI (vs:= [.pointer (some ⟨b,0,none⟩),.pointer (some ⟨p,0,none⟩)]) I IB (hl:=by rw [hC];omega) (hi:=by rw [Nat.zero_add];exact hq)) I ?_
 refine AB (AZ JH) I I I ?_
 rintro _ _ ⟨b6,rfl,rfl⟩
 refine AX (AV (ys:= [.pointer (some ⟨b,0,none⟩),.pointer (some ⟨p,0,none⟩)]) I I F6 (h1:=by simp [BD,Value.cells,Value.oneCell']) (hr:=I)) I I ?_
 rintro _ _ rfl
 refine A3 K3<|A7 fun _ K4=>A4 fun _ K5=>A2 (A1 I Dh) I<|A2 (A6 I GN (v:=.pointer (some ⟨b,0,none⟩))) I<|A2 (Fo I I IA) I ?_
 refine A3 K5<|AM I<|AA<|A5 K4<|A7 fun _ K6=>A4 fun _ K7=>A2 (A1 I IY) I<|A2 (AL (v:=.int .i64 5) (A6 I BF (v:=.int .i64 a.kind) (hi:=Ib a)) (by rw [hk])) I ?_
 refine A3 K7<|AG<|A4 fun _ K8=>A2 (Ab (i:=5) (j:=0) I I) I<|wA I I<|A3 K8<|AM I<|A4 fun _ K9=>A2 (Ab (i:=5) (j:=1) I I) I<|wA I I<|A3 K9<|AM I<|A4 fun _ K10=>A2 (Ab (i:=5) (j:=2) I I) I<|wA I I ?_
 refine A3 K10<|AM I<|A4 fun _ K11=>A2 (Ab (i:=5) (j:=3) I I) I<|wA I I<|A3 K11<|AM I<|A4 fun _ K12=>A2 (Ab (i:=5) (j:=4) I I) I<|wA I I<|A3 K12<|AM I<|A4 fun _ K13=>A2 (Ab (i:=5) (j:=5) I I) I<|wA I I ?_
 refine A3 K13<|Ad I<|A4 fun _ K14=>A2 (A1 I Dh) I<|A2 (A6 I GN (v:=.pointer (some ⟨b,0,none⟩))) I<|AB (AE eA I (hs:=Kk (b:=b) (room:=room) (s:=s) hw (by omega))) I I I ?_
 rintro _ _ ⟨⟨⟨kms4,a4,c4⟩,hk4⟩,rfl,hA⟩
 simp only [ca] at hA
 subst hA
 (try dsimp only at hk4)
 have hk4l:kms4.length=s.l.length:=by have q:=congrArg List.length hk4;rw [List.length_map] at q;exact q
 have hoe:(kms4.map KM.kv).map KV.kp=s.l:=by rw [CO];exact hk4
 refine Cl (fun w h=>FA (kms:=kms4) (ka:=a4) (kc:=c4) Bf Bf h) (fun hov=>?_)
 obtain⟨hoV,hoO⟩:=hov
 have hus:((C0 s.l:Nat):Int)<=room:=hw.used
 have hrm:=hw.rm
 refine AB (AE cf4 I (hs:=Ct.un0 (Xs:= [Aa a4 c4 19 83 BH kms4,star (CQ 5 44) kms4]) (RS (X:=F7 [Aa a4 c4 19 83 BH kms4,star (CQ 5 44) kms4]) (kvs:=kms4.map KM.kv) (room:=room) (tick:=s.tick) (hV:=hoV.pk Has.here) (hOK:=fun k hk=>⟨(hoO k hk).1.pk (Has.there Has.here),(hoO k hk).2.pk (Has.there Has.here)⟩) (hn:=by rw [List.length_map];omega) (hbb:=hw.bl hoe) (hlb:=hw.lsl hoe) (hu:=by rw [hoe];omega) (hwf:=by rw [hoe];exact hw)))) I I I ?_
 rintro _ _ ⟨⟨s9,w9⟩,rfl,hA⟩
 simp only [ca] at hA
 subst hA
 rw [hoe]
 refine wM I I<|A2 (BE I) I<|A2 (BN I) I<|AB (AZ JH) I I I ?_
 rintro _ _ ⟨b10,rfl,rfl⟩
 refine AX (AV (ys:= [.pointer (some ⟨s9,0,none⟩),.pointer (some ⟨w9,0,none⟩)]) I I F6 (h1:=by simp [BD,Value.cells,Value.oneCell']) (hr:=I)) I I ?_
 rintro _ _ rfl
 refine wA I I<|A3 K14<|A7 fun _ K15=>A4 fun _ K16=>wM I I<|A2 (Au I) I<|wM I I<|A2 (A1 I Dh) I<|A2 (A6 I GN (v:=.pointer (some ⟨s9,0,none⟩))) I<|A2 (Fo I I IA) I ?_
 refine A2 (A8 I I) I<|A3 K16<|AM I<|AA<|A5 K15<|A7 fun _ K17=>BC CE [cl b10 29 [.pointer (some ⟨s9,0,none⟩),.pointer (some ⟨w9,0,none⟩)]] (fun i=>([2,2,2,2,2,2,2,2,1]:List Nat).getD i 0) ?_
 refine jM 0 I I I hp<|jM 1 I I I hp<|jP 2 I (A1 I Dh) I hp<|jT 3 I (A6 I GN (v:=.pointer (some ⟨s9,0,none⟩))) I hp AQ<|jP 4 I (A9 I) I hp<|jP 5 I (A1 I FR) I hp<|jP 6 I (Cu (Bo a.on 2) I I Jt F6 I (by omega)) I hp ?_
 refine jP 7 I (A1 I Dh) I hp<|jO 8<|Cg I (Ar (ys:=C.set ((Bo a.on 2)*2) (.pointer (some ⟨s9,0,none⟩))) I I sz26 (hl:=by rw [Nat.blt_eq,hC];omega) (hr:=by simp)) I I I ?_
 rintro _ _ rfl
 refine⟨(fun _=>Bh),?_⟩
 refine jD<|A5 K17<|A4 fun _ K18=>wA I I<|A3 K18<|AK ?_
 exact hret.gf s9 (BR rfl rfl)
end Go.Proofs.YtoakfknnaiapiaaGreat
/-
 A script played against two servers:what is kept,what is known of it after n calls. (Conditions:none;no program in sight.)
-/
set_option maxRecDepth 20000
namespace Go.SvM
open Go.SL Go.ShM Go.RowKit
structure SP where
 b:Nat
 p:Nat
 room:Int
 s:Sv1
def HZ:Option SP ->List Value
 |none=> [.pointer none,.pointer none]
 |some x=> [.pointer (some ⟨x.b,0,none⟩),.pointer (some ⟨x.p,0,none⟩)]
theorem H2(q:Option SP):(HZ q).length=2:=by cases q <;>rfl
def S0:Option SP ->Nat
 |none=>0
 |some x=>x.s.l.length
structure MV where
 p:Pt
 X:Ao
 h:Sv [X] p.v 1 (eU .u8 (w:=8)) p.l p.ao p.cap
def GS.key(s:GS):Int × Int × List Kp:=(s.room,s.tick,s.p.l.map KM.e)
structure YS where
 q0:Option SP
 q1:Option SP
 gs:List GS
 ws:List GS
 hs:List PB
 ms:List MV
 is:List PI
 zs:List KI
 ga:Option Nat
 gc:Nat
 wa:Option Nat
 wc:Nat
 ha:Option Nat
 hc:Nat
 ma:Option Nat
 mc:Nat
 ia:Option Nat
 ic:Nat
 za:Option Nat
 zc:Nat
def YS.tail(y:YS):List Value:= [sl y.ga y.gs.length y.gc,sl y.wa y.ws.length y.wc,sl y.ha y.hs.length y.hc,sl y.ma (y.ms.map MV.p).length y.mc,sl y.ia y.is.length y.ic,sl y.za y.zs.length y.zc]
def YS.cells(y:YS):List Value:=HZ y.q0++HZ y.q1++y.tail
theorem YS.cells_len(y:YS):y.cells.length=10:=by
 unfold YS.cells;rw [List.length_append,List.length_append,H2,H2];rfl
def YS.q(y:YS)(k:Nat):Option SP:=if k=0 then y.q0 else y.q1
theorem YS.at_(y:YS){k:Nat}(h:k<2):(y.cells.drop (k*2)).take 2=HZ (y.q k):=by
 match k,h with
 |0,_=>cases h0:y.q0 <;>simp [YS.cells,YS.q,h0,HZ]
 |1,_=>cases h0:y.q0 <;>cases h1:y.q1 <;>simp [YS.cells,YS.q,h0,h1,HZ]
def YS.set(y:YS)(k:Nat)(q:Option SP):YS:=if k=0 then { y with q0:=q } else { y with q1:=q }
structure YI (m n:Nat) (y:YS):Prop where
 w0: ∀x,y.q0=some x ->Wf x.room x.s
 w1: ∀x,y.q1=some x ->Wf x.room x.s
 sz:S0 y.q0+S0 y.q1+y.gs.length<=m+n
 gl:y.gs.length<=n
 gm:y.gs.map GS.key=y.ws.map GS.key
 gw: ∀s∈y.gs,Wf s.room ⟨s.tick,s.p.l.map KM.e⟩/\s.p.l.length<=m+n
 gt:(E9 y.gs).length<=y.gs.length*(m+n -y.gs.length)
 hm:y.hs.map PB.l=y.ms.map fun x=>x.p.l
 hl:y.hs.length<=n
 hb: ∀p∈y.hs,p.l.length<=33554432
 il:y.is.length<=n
 ib: ∀p∈y.is,p.l.length<=m+n
 zl:y.zs.length<=n
theorem YI.wl{m n:Nat}{y:YS}(h:YI m n y):y.ws.length=y.gs.length:=by
 have:=congrArg List.length h.gm
 rw [List.length_map,List.length_map] at this;exact this.symm
theorem YI.ml{m n:Nat}{y:YS}(h:YI m n y):y.ms.length=y.hs.length:=by
 have:=congrArg List.length h.hm
 rw [List.length_map,List.length_map] at this;exact this.symm
theorem YI.w{m n:Nat}{y:YS}(h:YI m n y){k:Nat}{x:SP}(hx:y.q k=some x):Wf x.room x.s/\x.s.l.length+y.gs.length<=m+n:=by
 have hs:=h.sz
 unfold YS.q at hx
 split at hx
 ·exact⟨h.w0 x hx,by rw [hx] at hs;have:S0 (some x)=x.s.l.length:=rfl;omega⟩
 ·exact⟨h.w1 x hx,by rw [hx] at hs;have:S0 (some x)=x.s.l.length:=rfl;omega⟩
theorem YI.grow{m n:Nat}{y:YS}(h:YI m n y):YI m (n+1) y:=
 ⟨h.w0,h.w1,by have:=h.sz;omega,by have:=h.gl;omega,h.gm,fun s hs=>⟨(h.gw s hs).1,by have:=(h.gw s hs).2;omega⟩,
  Nat.le_trans h.gt (Nat.mul_le_mul_left _ (by omega)),h.hm,by have:=h.hl;omega,h.hb,by have:=h.il;omega,fun p hp=>by have:=h.ib p hp;omega,by have:=h.zl;omega⟩
theorem YI.step{m n:Nat}{y:YS}(h:YI m n y){k:Nat}{x x':SP}(hx:y.q k=some x)(hw:Wf x'.room x'.s)(hl:x'.s.l.length<=x.s.l.length+1):YI m (n+1) (y.set k (some x')):=by
 have hg:=h.grow
 have hs:=h.sz
 unfold YS.q at hx
 unfold YS.set
 split
 ·rename_i hk
  rw [if_pos hk] at hx
  refine { hg with w0:=fun z hz=>?_,sz:= ?_ }
  ·cases hz;exact hw
  ·rw [hx] at hs
   show x'.s.l.length+S0 y.q1+y.gs.length<=m+(n+1)
   have:S0 (some x)=x.s.l.length:=rfl
   omega
 ·rename_i hk
  rw [if_neg hk] at hx
  refine { hg with w1:=fun z hz=>?_,sz:= ?_ }
  ·cases hz;exact hw
  ·rw [hx] at hs
   show S0 y.q0+x'.s.l.length+y.gs.length<=m+(n+1)
   have:S0 (some x)=x.s.l.length:=rfl
   omega
theorem VP(gs:List GS)(g:GS):(E9 (gs++ [g])).length=(E9 gs).length+g.p.l.length:=by
 unfold E9
 rw [List.flatMap_append,List.length_append]
 simp
theorem YI.told{m n:Nat}{y:YS}(h:YI m n y){k:Nat}{x:SP}(hx:y.q k=some x){g w:GS}(hg:g.key=(x.room,x.s.tick,x.s.l))(hw:w.key=(x.room,x.s.tick,x.s.l))(ga:Option Nat)(gc:Nat)(wa:Option Nat)(wc:Nat):
  YI m (n+1) { y with gs:=y.gs++ [g],ws:=y.ws++ [w],ga:=ga,gc:=gc,wa:=wa,wc:=wc } :=by
 have hgr:=h.grow
 obtain⟨h1,h2⟩:=h.w hx
 have hs:=h.sz
 have hgl:=h.gl
 obtain⟨gr,gk,gp⟩:=g
 unfold GS.key at hg
 simp only [Prod.mk.injEq] at hg
 obtain⟨rfl,rfl,e3⟩:=hg
 have hlen:gp.l.length=x.s.l.length:=by have:=congrArg List.length e3;rw [List.length_map] at this;exact this
 refine { hgr with sz:= ?_,gl:= ?_,gm:= ?_,gw:= ?_,gt:= ?_ }
 ·show S0 y.q0+S0 y.q1+(y.gs++ [_]).length<=_
  rw [List.length_append,List.length_singleton];omega
 ·show (y.gs++ [_]).length<=_
  rw [List.length_append,List.length_singleton];omega
 ·show (y.gs++ [_]).map GS.key=(y.ws++ [_]).map GS.key
  rw [List.map_append,List.map_append,h.gm,List.map_singleton,List.map_singleton,hw]
  unfold GS.key
  simp only [e3]
 ·intro s hs'
  rcases List.mem_append.1 (show s∈y.gs++ [_] from hs') with q|q
  ·exact⟨(h.gw s q).1,by have:=(h.gw s q).2;omega⟩
  ·rw [List.mem_singleton] at q
   subst q
   exact⟨by show Wf x.room ⟨x.s.tick,gp.l.map KM.e⟩;rw [e3];exact h1,by show gp.l.length<=_;omega⟩
 ·show (E9 (y.gs++ [_])).length<=(y.gs++ [_]).length*(m+(n+1) -(y.gs++ [_]).length)
  rw [VP,List.length_append,List.length_singleton]
  have h3:=h.gt
  have h4:m+(n+1) -(y.gs.length+1)=m+n -y.gs.length:=by omega
  rw [h4,Nat.succ_mul]
  show (E9 y.gs).length+gp.l.length<=_
  omega
theorem YI.few{m n:Nat}{y:YS}(h:YI m n y)(hb:m+n<=1048580):(E9 y.gs).length<=980000000000:=by
 have h1:=h.gt
 have h2:=h.sz
 generalize y.gs.length=g at h1 h2
 rcases Nat.lt_or_ge g 900000 with q|q
 ·have:=Nat.mul_le_mul (show g<=900000 by omega) (show m+n -g<=1048580 by omega)
  omega
 ·have:=Nat.mul_le_mul (show g<=1048580 by omega) (show m+n -g<=148580 by omega)
  omega
end Go.SvM
namespace Go.SvM
open Go.SL Go.ShM Go.RowKit
theorem YS.set_q{y:YS}{k:Nat}{q:Option SP} :(y.set k q).q k=q:=by
 unfold YS.set YS.q;split <;>rfl
theorem YS.set_o{y:YS}{k:Nat}(h:k<2){q:Option SP} :(y.set k q).q (1 -k)=y.q (1 -k):=by
 match k,h with
 |0,_=>rfl
 |1,_=>rfl
theorem YS.set_cells{y:YS}{k:Nat}(h:k<2){x:SP}(hx:y.q k=some x)(b':Nat)(s':Sv1):(y.set k (some ⟨b',x.p,x.room,s'⟩)).cells=y.cells.set (k*2) (.pointer (some ⟨b',0,none⟩)):=by
 match k,h with
 |0,_=>
  have h0:y.q0=some x:=hx
  simp [YS.set,YS.cells,YS.tail,h0,HZ]
 |1,_=>
  have h1:y.q1=some x:=hx
  cases h0:y.q0 <;>simp [YS.set,YS.cells,YS.tail,h0,h1,HZ]
end Go.SvM
namespace Go.SvM
open Go.SL Go.ShM Go.RowKit
def YS.add(y:YS)(h:PB)(m:MV)(i:PI)(z:KI)(ha:Option Nat)(hc:Nat)(ma:Option Nat)(mc:Nat)(ia:Option Nat)(ic:Nat)(za:Option Nat)(zc:Nat):YS:=
 { y with hs:=y.hs++ [h],ms:=y.ms++ [m],is:=y.is++ [i],zs:=y.zs++ [z],ha:=ha,hc:=hc,ma:=ma,mc:=mc,ia:=ia,ic:=ic,za:=za,zc:=zc }
theorem YI.add{m n:Nat}{y:YS}(h:YI m (n+1) y){hh:PB}{mm:MV}{i:PI}{z:KI}(hl:y.hs.length<=n)(il:y.is.length<=n)(zl:y.zs.length<=n)(e:hh.l=mm.p.l)(b1:hh.l.length<=33554432)(b2:i.l.length<=m+(n+1))(ha:Option Nat)(hc:Nat)(ma:Option Nat)(mc:Nat)(ia:Option Nat)(ic:Nat)(za:Option Nat)(zc:Nat):YI m (n+1) (y.add hh mm i z ha hc ma mc ia ic za zc) where
 w0:=h.w0
 w1:=h.w1
 sz:=h.sz
 gl:=h.gl
 gm:=h.gm
 gw:=h.gw
 gt:=h.gt
 hm:=by
  show (y.hs++ [hh]).map PB.l=(y.ms++ [mm]).map fun x=>x.p.l
  rw [List.map_append,List.map_append,h.hm,List.map_singleton,List.map_singleton,e]
 hl:=by show (y.hs++ [hh]).length<=_;rw [List.length_append,List.length_singleton];omega
 hb:=fun p hp=>by
  rcases List.mem_append.1 (show p∈y.hs++ [hh] from hp) with q|q
  ·exact h.hb p q
  ·rw [List.mem_singleton] at q;subst q;exact b1
 il:=by show (y.is++ [i]).length<=_;rw [List.length_append,List.length_singleton];omega
 ib:=fun p hp=>by
  rcases List.mem_append.1 (show p∈y.is++ [i] from hp) with q|q
  ·exact h.ib p q
  ·rw [List.mem_singleton] at q;subst q;exact b2
 zl:=by show (y.zs++ [z]).length<=_;rw [List.length_append,List.length_singleton];omega
theorem YS.set_hs{y:YS}{k:Nat}{q:Option SP} :(y.set k q).hs=y.hs/\(y.set k q).ms=y.ms/\(y.set k q).is=y.is/\(y.set k q).zs=y.zs/\(y.set k q).gs=y.gs/\(y.set k q).ws=y.ws:=by
 unfold YS.set;split <;>exact⟨rfl,rfl,rfl,rfl,rfl,rfl⟩
theorem TG(q:Option SP): ∃u v,HZ q= [u,v]:=by cases q <;>exact⟨_,_,rfl⟩
theorem YS.cells_four(y:YS): ∃c0 c1 c2 c3,HZ y.q0++HZ y.q1= [c0,c1,c2,c3]/\y.cells= [c0,c1,c2,c3]++y.tail:=by
 obtain⟨u,v,h⟩:=TG y.q0
 obtain⟨u',v',h'⟩:=TG y.q1
 exact⟨u,v,u',v',by rw [h,h'];rfl,by unfold YS.cells;rw [h,h'];rfl⟩
theorem YS.set_head{y:YS}{k:Nat}(h:k<2){x:SP}(hx:y.q k=some x)(s':Sv1):HZ (y.set k (some ⟨x.b,x.p,x.room,s'⟩)).q0++HZ (y.set k (some ⟨x.b,x.p,x.room,s'⟩)).q1=HZ y.q0++HZ y.q1:=by
 match k,h with
 |0,_=>have h0:y.q0=some x:=hx;simp [YS.set,h0,HZ]
 |1,_=>have h1:y.q1=some x:=hx;simp [YS.set,h1,HZ]
end Go.SvM
namespace Go.Proofs.YtoakfknnaiapiaaGreat
open Go.RowKit Go.SL Go.ShM Go.SvM
set_option maxHeartbeats 1000000
set_option maxRecDepth 20000
set_option linter.all false

def DG:Option SP ->Ao
 |none=>F7 []
 |some x=>F7 [Eu 90 102 5 x.b x.room x.s,Du 24 83 5 44 x.p x.room x.s]
def YR(y:YS):List Ao:= [Aa y.ga y.gc 3 24 GG y.gs,Aa y.wa y.wc 3 24 GG y.ws,star (Gf 83 5 44) y.gs,star (Gf 83 5 44) y.ws,Aa y.ha y.hc 1 45 Hj y.hs,star (IH 5) y.hs,Aa y.ma y.mc 1 45 fP (y.ms.map MV.p),star MV.X y.ms,Aa y.ia y.ic 1 79 No y.is,star (FP 3) y.is,Aa y.za y.zc 1 79 Rv y.zs]
def Jo(kb:Nat)(y:YS):Ao:=F7 (cl kb 38 y.cells::DG y.q0::DG y.q1::YR y)
theorem JC{kb:Nat}{y:YS}{k:Nat}(h:k<2){w:World}{R:List Ao} :sat w (Jo kb y::R)<->sat w (cl kb 38 y.cells::DG (y.q k)::DG (y.q (1 -k))::(YR y++R)):=by
 unfold Jo
 rw [Bb]
 match k,h with
 |0,_=>exact Iff.rfl
 |1,_=>exact⟨fun z=>AS (List.Perm.cons _ (List.Perm.swap _ _ _)) z,fun z=>AS (List.Perm.cons _ (List.Perm.swap _ _ _)) z⟩
theorem eJ{y:YS}{k:Nat}{q:Option SP} :YR (y.set k q)=YR y:=by unfold YS.set;split <;>rfl
theorem Sw{kb k:Nat}{y:YS}{x:SP}{X:Ao}{F:List Ao}{w:World}(hk:k<2)(hx:y.q k=some x)(h:sat w (Jo kb y::X::F)):sat w ([cl kb 38 y.cells,Eu 90 102 5 x.b x.room x.s,Du 24 83 5 44 x.p x.room x.s,X]++(DG (y.q (1 -k))::(YR y++F))):=by
 have h1:=(JC hk).1 h
 rw [hx] at h1
 have h2:=AS (List.Perm.cons _ (List.Perm.cons _ (List.Perm.cons _ (List.perm_middle (l₁:=YR y))))) h1
 have h3:=AS (List.Perm.swap _ _ _) h2
 have h4:=Bb.1 (show sat w (F7 [Eu 90 102 5 x.b x.room x.s,Du 24 83 5 44 x.p x.room x.s]::_) from h3)
 simp only [List.cons_append,List.nil_append] at h4 ⊢
 exact AS (show Gv _ [cl kb 38 y.cells,Eu 90 102 5 x.b x.room x.s,Du 24 83 5 44 x.p x.room x.s,X] (DG (y.q (1 -k))::(YR y++F)) from Gu) h4
theorem ar{kb k:Nat}{y:YS}{x:SP}{X:Ao}{F:List Ao}{w:World}(hk:k<2)(h:sat w ([cl kb 38 (y.set k (some x)).cells,Eu 90 102 5 x.b x.room x.s,Du 24 83 5 44 x.p x.room x.s,X]++(DG (y.q (1 -k))::(YR y++F)))):sat w (Jo kb (y.set k (some x))::X::F):=by
 refine(JC hk).2 ?_
 rw [YS.set_q,YS.set_o hk,eJ]
 simp only [List.cons_append,List.nil_append] at h
 have h4:=AS (show Gv _ [Eu 90 102 5 x.b x.room x.s,Du 24 83 5 44 x.p x.room x.s] (cl kb 38 (y.set k (some x)).cells::DG (y.q (1 -k))::X::(YR y++F)) from Gv.cons (Ext.there Ext.here) (Gv.cons (Ext.there Ext.here) (by
  refine List.Perm.cons _ ?_
  exact List.Perm.swap _ _ _))) h
 have h3:=Bb.2 (show sat w ([Eu 90 102 5 x.b x.room x.s,Du 24 83 5 44 x.p x.room x.s]++(cl kb 38 (y.set k (some x)).cells::DG (y.q (1 -k))::X::(YR y++F))) from h4)
 have h2:=AS (List.Perm.swap _ _ _) h3
 exact AS (List.Perm.cons _ (List.Perm.cons _ (List.Perm.cons _ (List.perm_middle (l₁:=YR y)).symm))) h2
theorem JB{kb k m n:Nat}{y:YS}{x:SP}{a:AcQ}{X:Ao}{ρ:Type}{b':ρ ->Nat}{s':ρ ->Sv1}(hk:k<2)(hx:y.q k=some x)(hy:YI m n y)
  (h:Ct Tryz.prog 5 [.pointer (some ⟨kb,0,none⟩),.agg (Cj a).toArray] [cl kb 38 y.cells,Eu 90 102 5 x.b x.room x.s,Du 24 83 5 44 x.p x.room x.s,X] (fun _:ρ=>.bool true) (fun g=> [cl kb 38 (y.set k (some ⟨b' g,x.p,x.room,s' g⟩)).cells,Eu 90 102 5 (b' g) x.room (s' g),Du 24 83 5 44 x.p x.room (s' g),X]))
  (hw: ∀g,Wf x.room (s' g)) (hl: ∀g,(s' g).l.length<=x.s.l.length+1):
  Ct Tryz.prog 5 [.pointer (some ⟨kb,0,none⟩),.agg (Cj a).toArray] [Jo kb y,X] (fun _: {y':YS // YI m (n+1) y'} =>.bool true) (fun g=> [Jo kb g.1,X]):=
 ⟨fun F w hs=>(h.out (DG (y.q (1 -k))::(YR y++F)) w (Sw hk hx hs)).mono (by
  rintro e w' ⟨g,he,hs',hk'⟩
  exact⟨⟨y.set k (some ⟨b' g,x.p,x.room,s' g⟩),hy.step hx (hw g) (hl g)⟩,he,ar hk hs',hk'⟩)⟩
end Go.Proofs.YtoakfknnaiapiaaGreat
namespace Go.Proofs.YtoakfknnaiapiaaGreat
open Go.RowKit Go.SL Go.ShM Go.SvM
set_option maxHeartbeats 1000000
set_option maxRecDepth 20000
set_option linter.all false

theorem Sq{X:Ao}{v:Value}{kvs:List KV}{ao:Option Addr}{cap:Nat}{room tick:Int}(hV:Sv [X] v 19 EC kvs ao cap)(hOK: ∀k∈kvs,Lh X k)(hn:kvs.length<=100000000)(hbb: ∀k∈kvs,k.b.l.length<=900000000000)(hlb: ∀k∈kvs,k.ls.l.length<=900000000000)(hu:C0 (kvs.map KV.kp)<=4000000000000):Ct Tryz.prog 4 [(.agg ([.int .i64 room,.int .i64 tick,v]:List Value).toArray),.bool false] [X] (fun g: {q:Option SP // (∀x,q=some x ->Wf x.room x.s)/\S0 q<=kvs.length} =>.tuple #[.agg (HZ g.1).toArray,.bool true]) (fun g=> [X,DG g.1]):=by
 by_cases hwf:Wf room ⟨tick,kvs.map KV.kp⟩
 ·refine(RS hV hOK hn hbb hlb hu hwf).reg fun g F w z=>⟨⟨some ⟨g.1,g.2,room,⟨tick,kvs.map KV.kp⟩⟩,fun x hx=>by cases hx;exact hwf,by show (kvs.map KV.kp).length<=_;rw [List.length_map];exact Nat.le_refl _⟩,rfl,?_⟩
  simp only [List.cons_append,List.nil_append] at z ⊢
  have z1:=AS (show Gv _ [Eu 90 102 5 g.1 room ⟨tick,kvs.map KV.kp⟩,Du 24 83 5 44 g.2 room ⟨tick,kvs.map KV.kp⟩] _ from Gu) z
  have z2:sat w (DG (some ⟨g.1,g.2,room,⟨tick,kvs.map KV.kp⟩⟩)::_):=Bb.2 z1
  exact AS (List.Perm.swap _ _ _) z2
 ·exact(VF hV hOK hn hbb hlb hu hwf).reg fun g F w z=>⟨⟨none,fun x hx=>(by cases hx),Nat.zero_le _⟩,rfl,AS (List.Perm.swap _ _ _) (Bb.2 (show sat w (([]:List Ao)++_) from z))⟩
theorem Sr{X:Ao}{v:Value}{kvs:List KV}{room tick:Int} :Ct Tryz.prog 4 [(.agg ([.int .i64 room,.int .i64 tick,v]:List Value).toArray),.bool true] [X] (fun g: {q:Option SP // (∀x,q=some x ->Wf x.room x.s)/\S0 q<=kvs.length} =>.tuple #[.agg (HZ g.1).toArray,.bool true]) (fun g=> [X,DG g.1]):=by
 by_cases h:0<=room/\room<=1073741824
 ·refine((VE (v:=v) (tick:=tick) h).frame [X]).reg fun g F w z=>⟨⟨some ⟨g.1,g.2,room,⟨0,[]⟩⟩,fun x hx=>by cases hx;exact P3 h (by decide),Nat.zero_le _⟩,rfl,?_⟩
  simp only [List.cons_append,List.nil_append] at z ⊢
  have z2:sat w (DG (some ⟨g.1,g.2,room,⟨0,[]⟩⟩)::_):=Bb.2 z
  exact AS (List.Perm.swap _ _ _) z2
 ·exact((VD (v:=v) (tick:=tick) (by omega)).frame [X]).reg fun g F w z=>⟨⟨none,fun x hx=>(by cases hx),Nat.zero_le _⟩,rfl,AS (List.Perm.swap _ _ _) (Bb.2 (show sat w (([]:List Ao)++_) from z))⟩
end Go.Proofs.YtoakfknnaiapiaaGreat
namespace Go.Proofs.YtoakfknnaiapiaaGreat
open Go.RowKit Go.SL Go.ShM Go.SvM
set_option maxHeartbeats 1000000
set_option maxRecDepth 20000
set_option linter.all false

def Rx(q0 q1:Option SP):YS:=⟨q0,q1,[],[],[],[],[],[],none,0,none,0,none,0,none,0,none,0,none,0⟩
theorem SJ(q0 q1:Option SP):Er [(0,2),(2,2)] [(0,.agg (HZ q0).toArray),(1,.agg (HZ q1).toArray)] [.pointer none,.pointer none,.pointer none,.pointer none]=some (HZ q0++HZ q1):=by
 cases q0 <;>cases q1 <;>kernel_rfl
theorem Um(q0 q1:Option SP):Er [(0,4),(4,1),(5,1),(6,1),(7,1),(8,1),(9,1)] [(0,.agg (HZ q0++HZ q1).toArray)] [.pointer none,.pointer none,.pointer none,.pointer none,.slice none 0 0,.slice none 0 0,.slice none 0 0,.slice none 0 0,.slice none 0 0,.slice none 0 0]=some (Rx q0 q1).cells:=by
 cases q0 <;>cases q1 <;>kernel_rfl
def gG(k kd:Int):AcQ:=⟨k,kd,0,0,⟨0#8,ixz,0,0,0,0#32,0,nilB⟩⟩
theorem RY(k kd:Int):Er [(0,1),(1,1),(2,1),(3,1),(4,23)] [(0,.int .i64 k),(1,.int .i64 kd)] [.int .i64 0,.int .i64 0,.int .i64 0,.int .i64 0,.int .u8 0,.int .u8 0,.int .u8 0,.int .u8 0,.int .u8 0,.int .u8 0,.int .u8 0,.int .u8 0,.int .u8 0,.int .u8 0,.int .u8 0,.int .u8 0,.int .u8 0,.int .u8 0,.int .u8 0,.int .u8 0,.int .u8 0,.int .i64 0,.int .i64 0,.int .i64 0,.int .u32 0,.int .i64 0,.slice none 0 0]=some (Cj (gG k kd)):=by kernel_rfl
theorem eK{kb:Nat}{q0 q1:Option SP}{R:List Ao}{w:World}(h:sat w (cl kb 38 (Rx q0 q1).cells::DG q0::DG q1::R)):sat w (Jo kb (Rx q0 q1)::R):=by
 refine(JC (k:=0) (by omega)).2 ?_
 have z:sat w (YR (Rx q0 q1)++([cl kb 38 (Rx q0 q1).cells,DG q0,DG q1]++R)):=
  BO (e:=3) (T:=24) (f:=GG) (BO (e:=3) (T:=24) (f:=GG) (EX (F:=(Gf 83 5 44)) (EX (F:=(Gf 83 5 44)) (BO (e:=1) (T:=45) (f:=Hj) (EX (F:=(IH 5)) (BO (e:=1) (T:=45) (f:=fP) (EX (F:=MV.X) (BO (e:=1) (T:=79) (f:=No) (EX (F:=FP 3) (BO (e:=1) (T:=79) (f:=Rv) h))))))))))
 refine AS ?_ z
 show (YR (Rx q0 q1)++([cl kb 38 (Rx q0 q1).cells,DG q0,DG q1]++R)).Perm ([cl kb 38 (Rx q0 q1).cells,DG q0,DG q1]++(YR (Rx q0 q1)++R))
 rw [<-List.append_assoc,<-List.append_assoc]
 exact List.Perm.append_right _ List.perm_append_comm
theorem YI_0{q0 q1:Option SP}{m:Nat}(h0: ∀x,q0=some x ->Wf x.room x.s)(h1: ∀x,q1=some x ->Wf x.room x.s)(h:S0 q0+S0 q1<=m):YI m 0 (Rx q0 q1) where
 w0:=h0
 w1:=h1
 sz:=h
 gl:=Nat.le_refl _
 gm:=rfl
 gw:=fun s hs=>(List.not_mem_nil hs).elim
 gt:=Nat.zero_le _
 hm:=rfl
 hl:=Nat.le_refl _
 hb:=fun p hp=>(List.not_mem_nil hp).elim
 il:=Nat.le_refl _
 ib:=fun p hp=>(List.not_mem_nil hp).elim
 zl:=Nat.le_refl _
theorem Qy{gs:List GS}{A:List Ao}{w:World}(hA:Has A (star (Gf 83 5 44) gs))(h:sat w A): ∀(i:Nat) (s:GS),gs[i]? =some s ->Sv [star (Gf 83 5 44) gs] (sl s.p.a s.p.l.length s.p.cap) 19 EC (s.p.l.map KM.kv) (s.p.a.map fun g=>⟨g,0,none⟩) s.p.cap/\ ∀k∈s.p.l.map KM.kv,Lh (star (Gf 83 5 44) gs) k:=fun i s hs=>by
 obtain⟨R,hR⟩:=hA
 have h1:=Gb i hs (AS hR h)
 have h2:=Bb.1 (show sat w (F7 [Aa s.p.a s.p.cap 19 83 BH s.p.l,star (CQ 5 44) s.p.l]::_) from h1)
 have v:=FA (kms:=s.p.l) (ka:=s.p.a) (kc:=s.p.cap) Has.here (Has.there Has.here) h2
 refine⟨Sv.star (F:=(Gf 83 5 44)) i hs (v.1.pk Has.here),fun k hk=>?_⟩
 have q:=v.2 k hk
 exact⟨Sv.star (F:=(Gf 83 5 44)) i hs (q.1.pk (Has.there Has.here)),Sv.star (F:=(Gf 83 5 44)) i hs (q.2.pk (Has.there Has.here))⟩
theorem OO{X:Ao}{v:Value}{kvs:List KV}{ao:Option Addr}{cap:Nat}{room tick:Int}{fr:Bool}(hV:Sv [X] v 19 EC kvs ao cap)(hOK: ∀k∈kvs,Lh X k)(hn:kvs.length<=100000000)(hbb: ∀k∈kvs,k.b.l.length<=900000000000)(hlb: ∀k∈kvs,k.ls.l.length<=900000000000)(hu:C0 (kvs.map KV.kp)<=4000000000000):Ct Tryz.prog 4 [(.agg ([.int .i64 room,.int .i64 tick,v]:List Value).toArray),.bool fr] [X] (fun g: {q:Option SP // (∀x,q=some x ->Wf x.room x.s)/\S0 q<=kvs.length} =>.tuple #[.agg (HZ g.1).toArray,.bool true]) (fun g=> [X,DG g.1]):=by
 cases fr
 ·exact Sq hV hOK hn hbb hlb hu
 ·exact Sr
end Go.Proofs.YtoakfknnaiapiaaGreat
namespace Go.Proofs.YtoakfknnaiapiaaGreat
open Go.RowKit Go.SL Go.ShM Go.SvM
set_option maxHeartbeats 1000000
set_option maxRecDepth 20000
set_option linter.all false

theorem Nn{ps qs:List Pt}{i:Nat}{p q:Pt}(h:(ps.take i).map (·.l)=(qs.take i).map (·.l))(hp:ps[i]? =some p)(hq:qs[i]? =some q)(he:p.l=q.l):(ps.take (i+1)).map (·.l)=(qs.take (i+1)).map (·.l):=by
 rw [List.take_add_one,List.take_add_one,hp,hq,List.map_append,List.map_append,h];simp [he]
theorem Mr{ps qs:List Pt}{i:Nat}{p q:Pt}(hp:ps[i]? =some p)(hq:qs[i]? =some q)(he: ¬p.l=q.l): ¬ps.map (·.l)=qs.map (·.l):=fun e=>he (by
 have:=congrArg (fun x=>x[i]?) e
 simp only [List.getElem?_map,hp,hq,Option.map_some,Option.some.injEq] at this
 exact this)
theorem Ko{ps qs:List Pt}(h:ps.length≠qs.length): ¬ps.map (·.l)=qs.map (·.l):=fun e=>h (by have:=congrArg List.length e;simpa using this)
theorem Jk{ps qs:List Pt}(h:(ps.take ps.length).map (·.l)=(qs.take ps.length).map (·.l))(hl:ps.length=qs.length):ps.map (·.l)=qs.map (·.l):=by
 rw [List.take_length] at h
 rw [hl,List.take_length] at h
 exact h

theorem Ud{X:Ao}{v v':Value}{ps qs:List Pt}{ao ao':Option Addr}{cap cap':Nat}(hS:Sv [X] v 1 fP ps ao cap:=by assumption)(hS':Sv [X] v' 1 fP qs ao' cap':=by assumption)(hP: ∀p∈ps,gi [X] p:=by assumption)(hQ: ∀p∈qs,gi [X] p:=by assumption)(hl:ps.length<=900000000000:=by omega)(hb: ∀p∈ps,p.l.length<=900000000000:=by assumption):Ct Tryz.prog 6 [v,v'] [X] (fun _:Unit=>.bool (decide (ps.map (·.l)=qs.map (·.l)))) (fun _=> [X]):=by
 refine AY (n:=27) Tryz.func6 I I I fun F w0 Q hret hnorm hp=>?_
 change WC _ _ _ _ _ _ _ (_::F)
 refine A4 fun _ K1=>wA I I<|A3 K1<|A7 fun _ K2=>A4 fun _ K3=>wM I I<|A2 (Al I I Fa) I ?_
 refine wM I I<|A2 (Al I I Fa) I ?_
 refine A2 (Bj I I) I ?_
 refine A3 K3<|AH I (fun hc0=>?_) (fun hc0=>?_)
 ·try simp only [dz] at hc0
  refine A4 fun _ K4=>wA I I<|A3 K4<|AK ?_
  first|exact hret.goE () (BR rfl rfl) (bF (Ko hc0))|exact hret.goE () (BR rfl rfl) (bF (Mr hpt hqt hc2))|exact hret.goE () (BR rfl rfl) (bT (Jk hi.2 (by omega)))
 try simp only [dz] at hc0
 refine AA<|A5 K2<|A7 fun _ K5=>A4 fun _ K6=>wA I I<|A3 K6<|AG<|Ak (σ:=Nat) (fun i'=> [(5,.int .i64 ((i':Nat):Int))]) (fun i'=> []) (fun i'=>i'<=ps.length/\(ps.take i').map (·.l)=(qs.take i').map (·.l)) (fun i'=>ps.length -i') (0) [0,1] Cw D8 ?_ ?_ Sub.refl ?_
 ·exact⟨Nat.zero_le _,rfl⟩
 ·(try dsimp only);exact(Wk.cons Ch Wk.nil)
 rintro i' hi K7 K7
 simp only [List.cons_append,List.nil_append]
 refine A7 fun _ K8=>A4 fun _ K9=>wM I I<|wM I I<|A2 (Al I I Fa) I ?_
 refine A2 (An I I) I<|A3 K9<|AH I (fun hc1=>?_) (fun hc1=>?_)
 ·try simp only [dz] at hc1
  obtain⟨pt,hpt⟩: ∃p,ps[i']? =some p:=⟨_,List.getElem?_eq_getElem (by omega)⟩
  have hptS:Sv [X] pt.v 1 (eU .u8 (w:=8)) pt.l pt.ao pt.cap:=hP pt (List.mem_of_getElem? hpt)
  obtain⟨qt,hqt⟩: ∃p,qs[i']? =some p:=⟨_,List.getElem?_eq_getElem (by omega)⟩
  have hqtS:Sv [X] qt.v 1 (eU .u8 (w:=8)) qt.l qt.ao qt.cap:=hQ qt (List.mem_of_getElem? hqt)
  have hpb:=hb pt (List.mem_of_getElem? hpt)
  refine AA<|A5 K8<|A7 fun _ K10=>AG<|A7 fun _ K11=>Am CE (fun i=>([2,2,2,2,2,2,2,2,1,2]:List Nat).getD i 0) ?_
  refine jM 0 I I I hp<|jM 1 I I I hp<|jP 2 I (AO i' I I Fa Gi (hA:=hS) (hi:=by omega)) I hp ?_
  refine jT 3 I (Af (i:=i') (j:=0) I Bg (hA:=hS) (hl:=hpt)) I hp AQ ?_
  refine jM 4 I I I hp<|jM 5 I I I hp<|jP 6 I (AO i' I I Fa Gi (hA:=hS') (hi:=by omega)) I hp ?_
  refine jT 7 I (Af (i:=i') (j:=0) I Bg (hA:=hS') (hl:=hqt)) I hp AQ ?_
  refine jO 8<|B7 I (AE aY I (hs:=Mc (hS:=hptS) (hS':=hqtS))) I I I I ?_
  rintro _ _ ⟨⟨⟩,rfl,hA⟩
  simp only [ca] at hA
  subst hA
  refine⟨(fun _=>Bh),?_⟩
  refine jP 9 I (Au I) I hp<|jD<|A5 K11<|AH I (fun hc2=>?_) (fun hc2=>?_)
  ·try simp only [dz] at hc2
   refine A4 fun _ K12=>wA I I<|A3 K12<|AK ?_
   first|exact hret.goE () (BR rfl rfl) (bF (Ko hc0))|exact hret.goE () (BR rfl rfl) (bF (Mr hpt hqt hc2))|exact hret.goE () (BR rfl rfl) (bT (Jk hi.2 (by omega)))
  try simp only [dz] at hc2
  refine AA<|A5 K10<|AD<|wM I I<|A2 (AN (j:=1) I I) I<|wA I I<|AW<|Az (K7 (i'+1) (⟨by omega,Nn hi.2 hpt hqt hc2⟩) (by omega))
 try simp only [dz] at hc1
 obtain rfl:i'=ps.length:=by omega
 refine Aj<|A5 K5<|A4 fun _ K13=>wA I I<|A3 K13<|AK ?_
 first|exact hret.goE () (BR rfl rfl) (bF (Ko hc0))|exact hret.goE () (BR rfl rfl) (bF (Mr hpt hqt hc2))|exact hret.goE () (BR rfl rfl) (bT (Jk hi.2 (by omega)))
end Go.Proofs.YtoakfknnaiapiaaGreat
namespace Go.Proofs.YtoakfknnaiapiaaGreat
open Go.RowKit Go.SL Go.ShM Go.SvM
set_option maxHeartbeats 1000000
set_option maxRecDepth 20000
set_option linter.all false

theorem WY(q:Option SP): ∀v∈HZ q,v.oneCell'=true:=by
 cases q <;>(intro v hv;simp only [HZ,List.mem_cons,List.not_mem_nil,or_false] at hv;rcases hv with rfl|rfl <;>rfl)
theorem eL{m:Md}{ops:Array Oper}{rest:List Oper}{Q:Exit ->Act ->World ->Prop}{w0:World}{n:Nat}{L:List (Nat × Value)}{A R:List Ao}{kb:Nat}(q0 q1:Option SP)(k:WL Tryz.prog m ops Q w0 n rest L (Jo kb (Rx q0 q1)::R))(hG:Gv A [cl kb 38 (Rx q0 q1).cells,DG q0,DG q1] R:=by repeat (first|with_reducible exact Gv.nil|(with_reducible apply Gv.cons;· (repeat (first|with_reducible exact Ext.here|with_reducible apply Ext.there))))):WL Tryz.prog m ops Q w0 n rest L A:=ER (fun _ hs=>eK (AS hG hs)) k
theorem gK{m:Md}{Q:Exit ->Act ->World ->Prop}{w0:World}{n:Nat}{c:Code}{L:List (Nat × Value)}{A R:List Ao}{kb:Nat}(y:YS)(k: ∀c0 c1 c2 c3,HZ y.q0++HZ y.q1= [c0,c1,c2,c3] ->WC Tryz.prog m Q w0 n c L (cl kb 38 [c0,c1,c2,c3,sl y.ga y.gs.length y.gc,sl y.wa y.ws.length y.wc,sl y.ha y.hs.length y.hc,sl y.ma (y.ms.map MV.p).length y.mc,sl y.ia y.is.length y.ic,sl y.za y.zs.length y.zc]::DG y.q0::DG y.q1::Aa y.ga y.gc 3 24 GG y.gs::Aa y.wa y.wc 3 24 GG y.ws::star (Gf 83 5 44) y.gs::star (Gf 83 5 44) y.ws::Aa y.ha y.hc 1 45 Hj y.hs::star (IH 5) y.hs::Aa y.ma y.mc 1 45 fP (y.ms.map MV.p)::star MV.X y.ms::Aa y.ia y.ic 1 79 No y.is::star (FP 3) y.is::Aa y.za y.zc 1 79 Rv y.zs::R))(hE:Ext A (Jo kb y) R:=by repeat (first|with_reducible exact Ext.here|with_reducible apply Ext.there)):WC Tryz.prog m Q w0 n c L A:=by
 obtain⟨c0,c1,c2,c3,h4,hcs⟩:=y.cells_four
 refine Cz (fun w hs=>?_) (k c0 c1 c2 c3 h4)
 have z:=(JC (k:=0) (by omega)).1 (AS hE hs)
 rw [hcs] at z
 exact z

def ZN(p:PB):Pt:=⟨p.l,p.a.map fun g=>⟨g,0,none⟩,p.cap⟩
theorem We{hs:List PB}{A:List Ao}{w:World}(hA:Has A (star (IH 5) hs))(h:sat w A): ∀p∈hs.map ZN,gi [star (IH 5) hs] p:=fun p hp=>by
 obtain⟨b,hb,rfl⟩:=List.mem_map.1 hp
 obtain⟨R,hR⟩:=hA
 obtain⟨i,hi,hx⟩:=List.mem_iff_getElem.1 hb
 have hx':hs[i]? =some b:=by rw [List.getElem?_eq_getElem hi,hx]
 have h1:=Gb i hx' (AS hR h)
 have f:=B1 (a:=b.a) (cap:=b.cap) (e:=1) (T:=5) (f:=(eU .u8 (w:=8))) (l:=b.l) Has.here h1
 exact Sv.star (F:=(IH 5)) i hx' (BM (T:=5) (Em .u8 (w:=8)) f.1 f.2)
theorem Wx{ms:List MV} : ∀p∈ms.map MV.p,gi [star MV.X ms] p:=fun p hp=>by
 obtain⟨b,hb,rfl⟩:=List.mem_map.1 hp
 obtain⟨i,hi,hx⟩:=List.mem_iff_getElem.1 hb
 have hx':ms[i]? =some b:=by rw [List.getElem?_eq_getElem hi,hx]
 exact Sv.star (F:=MV.X) i hx' b.h
theorem WS{y:YS}(hm:y.hs.map PB.l=y.ms.map fun x=>x.p.l)(hl:y.hs.length<=900000000000)(hb: ∀p∈y.hs,p.l.length<=900000000000):Ct Tryz.prog 6 [sl y.ha y.hs.length y.hc,sl y.ma (y.ms.map MV.p).length y.mc] [Aa y.ha y.hc 1 45 Hj y.hs,star (IH 5) y.hs,Aa y.ma y.mc 1 45 fP (y.ms.map MV.p),star MV.X y.ms] (fun _:Unit=>.bool true) (fun _=> [Aa y.ha y.hc 1 45 Hj y.hs,star (IH 5) y.hs,Aa y.ma y.mc 1 45 fP (y.ms.map MV.p),star MV.X y.ms]):=
 ⟨fun F w hs=>by
  have f1:=B1 (a:=y.ha) (cap:=y.hc) (e:=1) (T:=45) (f:=Hj) (l:=y.hs) (A:= [Aa y.ha y.hc 1 45 Hj y.hs,star (IH 5) y.hs,Aa y.ma y.mc 1 45 fP (y.ms.map MV.p),star MV.X y.ms]++F) Has.here hs
  have f2:=B1 (a:=y.ma) (cap:=y.mc) (e:=1) (T:=45) (f:=fP) (l:=y.ms.map MV.p) (A:= [Aa y.ha y.hc 1 45 Hj y.hs,star (IH 5) y.hs,Aa y.ma y.mc 1 45 fP (y.ms.map MV.p),star MV.X y.ms]++F) (Has.there (Has.there Has.here)) hs
  have v1:Sv [Aa y.ha y.hc 1 45 Hj y.hs] (sl y.ha y.hs.length y.hc) 1 Hj y.hs (y.ha.map fun g=>⟨g,0,none⟩) y.hc:=BM RD f1.1 f1.2
  have v2:Sv [Aa y.ma y.mc 1 45 fP (y.ms.map MV.p)] (sl y.ma (y.ms.map MV.p).length y.mc) 1 fP (y.ms.map MV.p) (y.ma.map fun g=>⟨g,0,none⟩) y.mc:=BM fW f2.1 f2.2
  have v3:=We (A:= [Aa y.ha y.hc 1 45 Hj y.hs,star (IH 5) y.hs,Aa y.ma y.mc 1 45 fP (y.ms.map MV.p),star MV.X y.ms]++F) (Has.there Has.here) hs
  have v1':=U0 (g:=fP) (h:=ZN) v1 (fun _=>rfl)
  have h:=Ct.un0 (Xs:= [Aa y.ha y.hc 1 45 Hj y.hs,star (IH 5) y.hs,Aa y.ma y.mc 1 45 fP (y.ms.map MV.p),star MV.X y.ms]) (Ud (X:=F7 [Aa y.ha y.hc 1 45 Hj y.hs,star (IH 5) y.hs,Aa y.ma y.mc 1 45 fP (y.ms.map MV.p),star MV.X y.ms]) (ps:=y.hs.map ZN) (qs:=y.ms.map MV.p) (v1'.pk Has.here) (v2.pk (Has.there (Has.there Has.here))) (fun p hp=>(v3 p hp).pk (Has.there Has.here)) (fun p hp=>(Wx p hp).pk (Has.there (Has.there (Has.there Has.here)))) (by rw [List.length_map];exact hl) (fun p hp=>by obtain⟨b,hb',rfl⟩:=List.mem_map.1 hp;exact hb b hb'))
  have e:decide ((y.hs.map ZN).map (·.l)=(y.ms.map MV.p).map (·.l))=true:=decide_eq_true (by rw [List.map_map,List.map_map];exact hm)
  rw [e] at h
  exact h.out F w hs⟩

theorem WR{gs ws:List GS}{i:Nat}{s t:GS}(hs:gs[i]? =some s)(ht:ws[i]? =some t)(hk:s.key=t.key)(hw:Wf s.room ⟨s.tick,s.p.l.map KM.e⟩)(hl:s.p.l.length<=100000000):Ct Tryz.prog 9 [.agg (GG s).toArray,.agg (GG t).toArray] [star (Gf 83 5 44) gs,star (Gf 83 5 44) ws] (fun _:Unit=>.bool true) (fun _=> [star (Gf 83 5 44) gs,star (Gf 83 5 44) ws]):=
 ⟨fun F w hF=>by
  have v1:=Qy (gs:=gs) (A:= [star (Gf 83 5 44) gs,star (Gf 83 5 44) ws]++F) Has.here hF i s hs
  have v2:=Qy (gs:=ws) (A:= [star (Gf 83 5 44) gs,star (Gf 83 5 44) ws]++F) (Has.there Has.here) hF i t ht
  obtain⟨sr,stk,sp⟩:=s
  obtain⟨tr,ttk,tp⟩:=t
  unfold GS.key at hk
  simp only [Prod.mk.injEq] at hk
  obtain⟨rfl,rfl,e⟩:=hk
  simp only at hw hl v1 v2
  have hoe:(sp.l.map KM.kv).map KV.kp=sp.l.map KM.e:=CO _
  exact(Ct.un0 (Xs:= [star (Gf 83 5 44) gs,star (Gf 83 5 44) ws]) (Is (X:=F7 [star (Gf 83 5 44) gs,star (Gf 83 5 44) ws]) (kvs:=sp.l.map KM.kv) (kvs':=tp.l.map KM.kv) (room:=sr) (tick:=stk) (v1.1.pk Has.here) (v2.1.pk (Has.there Has.here)) (fun k hk=>⟨(v1.2 k hk).1.pk Has.here,(v1.2 k hk).2.pk Has.here⟩) (fun k hk=>⟨(v2.2 k hk).1.pk (Has.there Has.here),(v2.2 k hk).2.pk (Has.there Has.here)⟩) (by rw [CO,CO];exact e) (by rw [List.length_map];exact hl) (hw.bl hoe) (hw.lsl hoe))).out F w hF⟩

def spB:Option SP ->Option Addr
 |none=>none
 |some x=>some ⟨x.b,0,none⟩
def spW:Option SP ->Option Addr
 |none=>none
 |some x=>some ⟨x.p,0,none⟩
theorem WZ(q:Option SP):HZ q= [.pointer (spB q),.pointer (spW q)]:=by cases q <;>rfl
theorem Sp{y:YS}{C:List Value}(h:y.cells=C){k:Nat}(hk:k<2):C[0+k*2+0]? =some (.pointer (spB (y.q k))):=by
 have z:=y.at_ hk
 rw [WZ,h] at z
 have:=congrArg (fun l=>l[0]?) z
 simp only [List.getElem?_take,List.getElem?_drop] at this
 simpa using this
theorem eB{y:YS}{C:List Value}(h:y.cells=C){k:Nat}(hk:k<2):C[0+k*2+1]? =some (.pointer (spW (y.q k))):=by
 have z:=y.at_ hk
 rw [WZ,h] at z
 have:=congrArg (fun l=>l[1]?) z
 simp only [List.getElem?_take,List.getElem?_drop] at this
 simpa using this
theorem eG{gs:List GS}(h: ∀s∈gs,Wf s.room ⟨s.tick,s.p.l.map KM.e⟩):(∀k∈E9 gs,k.e.b.length<=900000000000)/\ ∀k∈E9 gs,k.e.ls.length<=900000000000:=by
 have key: ∀k∈E9 gs,k.e.b.length<=33554432/\k.e.ls.length<=64:=fun k hk=>by
  obtain⟨s,hs,hk'⟩:=List.mem_flatMap.1 hk
  have hm:k.e∈s.p.l.map KM.e:=List.mem_map.2 ⟨k,hk',rfl⟩
  exact⟨(h s hs).len k.e hm,((h s hs).ls k.e hm).2⟩
 exact⟨fun k hk=>by have:=(key k hk).1;omega,fun k hk=>by have:=(key k hk).2;omega⟩

theorem bU{y:YS}{k:Nat}(hk:k<2){w:World}{R:List Ao} :sat w (DG y.q0::DG y.q1::R)<->sat w (DG (y.q k)::DG (y.q (1 -k))::R):=by
 match k,hk with
 |0,_=>exact Iff.rfl
 |1,_=>exact⟨fun z=>AS (List.Perm.swap _ _ _) z,fun z=>AS (List.Perm.swap _ _ _) z⟩
theorem gP{m:Md}{Q:Exit ->Act ->World ->Prop}{w0:World}{n:Nat}{c:Code}{L:List (Nat × Value)}{A R:List Ao}{y:YS}{k:Nat}{x:SP}(hk:k<2)(hx:y.q k=some x)(K: ∀(kms:List KM) (ka:Option Nat) (kc:Nat),kms.map KM.e=x.s.l ->WC Tryz.prog m Q w0 n c L (cl x.p 24 [.int .i64 x.room,.int .i64 x.s.tick,sl ka kms.length kc]::Aa ka kc 19 83 BH kms::star (CQ 5 44) kms::Eu 90 102 5 x.b x.room x.s::DG (y.q (1 -k))::R))(hG:Gv A [DG y.q0,DG y.q1] R:=by repeat (first|with_reducible exact Gv.nil|(with_reducible apply Gv.cons;· (repeat (first|with_reducible exact Ext.here|with_reducible apply Ext.there))))):WC Tryz.prog m Q w0 n c L A:=fun a w hd hf hs hk'=>by
 have z:=(bU hk).1 (AS hG hs)
 rw [hx] at z
 have z1:=AS (List.Perm.swap _ _ _) (Bb.1 (show sat w (F7 [Eu 90 102 5 x.b x.room x.s,Du 24 83 5 44 x.p x.room x.s]::_) from z))
 obtain⟨q,h1,h2⟩:=FD.1 z1
 exact K q.1 q.2.1 q.2.2 h1 a w hd hf h2 hk'
theorem gU{m:Md}{K:Act ->World ->Prop}{w0:World}{n:Nat}{L:List (Nat × Value)}{A R:List Ao}{y:YS}{k:Nat}{x:SP}{kms:List KM}{ka:Option Nat}{kc:Nat}(hk:k<2)(hx:y.q k=some x)(hq:kms.map KM.e=x.s.l)(h:Ps m K w0 n L (DG y.q0::DG y.q1::R))(hG:Gv A [cl x.p 24 [.int .i64 x.room,.int .i64 x.s.tick,sl ka kms.length kc],Aa ka kc 19 83 BH kms,star (CQ 5 44) kms,Eu 90 102 5 x.b x.room x.s,DG (y.q (1 -k))] R:=by repeat (first|with_reducible exact Gv.nil|(with_reducible apply Gv.cons;· (repeat (first|with_reducible exact Ext.here|with_reducible apply Ext.there))))):Ps m K w0 n L A:=
 I3 (fun w hs=>(bU hk).2 (by
  rw [hx]
  have z:=E5 (tS:=24) (tK:=83) (tU:=5) (tL:=44) (p:=x.p) (room:=x.room) (s:=x.s) kms ka kc hq (AS hG hs)
  exact Bb.2 (show sat w ([Eu 90 102 5 x.b x.room x.s,Du 24 83 5 44 x.p x.room x.s]++_) from AS (List.Perm.swap _ _ _) z))) h

theorem WV{kms kms2:List KM}{ka ka2:Option Nat}{kc kc2:Nat}{room tick:Int}(he:kms.map KM.e=kms2.map KM.e)(hw:Wf room ⟨tick,kms.map KM.e⟩)(hl:kms.length<=100000000):Ct Tryz.prog 9 [(.agg ([.int .i64 room,.int .i64 tick,(sl ka kms.length kc)]:List Value).toArray),(.agg ([.int .i64 room,.int .i64 tick,(sl ka2 kms2.length kc2)]:List Value).toArray)] [Aa ka kc 19 83 BH kms,star (CQ 5 44) kms,Aa ka2 kc2 19 83 BH kms2,star (CQ 5 44) kms2] (fun _:Unit=>.bool true) (fun _=> [Aa ka kc 19 83 BH kms,star (CQ 5 44) kms,Aa ka2 kc2 19 83 BH kms2,star (CQ 5 44) kms2]):=
 ⟨fun F w hF=>by
  have v1:=FA (kms:=kms) (ka:=ka) (kc:=kc) (A:= [Aa ka kc 19 83 BH kms,star (CQ 5 44) kms,Aa ka2 kc2 19 83 BH kms2,star (CQ 5 44) kms2]++F) Has.here (Has.there Has.here) hF
  have v2:=FA (kms:=kms2) (ka:=ka2) (kc:=kc2) (A:= [Aa ka kc 19 83 BH kms,star (CQ 5 44) kms,Aa ka2 kc2 19 83 BH kms2,star (CQ 5 44) kms2]++F) (Has.there (Has.there Has.here)) (Has.there (Has.there (Has.there Has.here))) hF
  exact(Ct.un0 (Xs:= [Aa ka kc 19 83 BH kms,star (CQ 5 44) kms,Aa ka2 kc2 19 83 BH kms2,star (CQ 5 44) kms2]) (Is (X:=F7 [Aa ka kc 19 83 BH kms,star (CQ 5 44) kms,Aa ka2 kc2 19 83 BH kms2,star (CQ 5 44) kms2]) (kvs:=kms.map KM.kv) (kvs':=kms2.map KM.kv) (room:=room) (tick:=tick) (v1.1.pk Has.here) (v2.1.pk (Has.there (Has.there Has.here))) (fun k hk=>⟨(v1.2 k hk).1.pk (Has.there Has.here),(v1.2 k hk).2.pk (Has.there Has.here)⟩) (fun k hk=>⟨(v2.2 k hk).1.pk (Has.there (Has.there (Has.there Has.here))),(v2.2 k hk).2.pk (Has.there (Has.there (Has.there Has.here)))⟩) (by rw [CO,CO];exact he) (by rw [List.length_map];exact hl) (hw.bl (CO _)) (hw.lsl (CO _)))).out F w hF⟩
end Go.Proofs.YtoakfknnaiapiaaGreat
namespace Go.Proofs.YtoakfknnaiapiaaGreat
open Go.RowKit Go.SL Go.ShM Go.SvM
set_option maxHeartbeats 1000000
set_option maxRecDepth 20000
set_option linter.all false

theorem HT{C:List Value}{k:Nat}{u v:Value}(h:(C.drop (k*2)).take 2= [u,v]):C.set (k*2) u=C:=by
 have h0:C[k*2]? =some u:=by
  have:=congrArg (fun l=>l[0]?) h
  simp only [List.getElem?_take,List.getElem?_drop] at this
  simpa using this
 obtain⟨hi,e⟩:=List.getElem?_eq_some_iff.1 h0
 rw [<-e,List.set_getElem_self]
theorem YN{kb m n:Nat}{y:YS}{a:AcQ}{X:Ao}(hy:YI m n y)(hx:y.q (Bo a.on 2)=none):Ct Tryz.prog 5 [.pointer (some ⟨kb,0,none⟩),.agg (Cj a).toArray] [Jo kb y,X] (fun _: {y':YS // YI m (n+1) y'} =>.bool true) (fun g=> [Jo kb g.1,X]):=by
 have hkp:Bo a.on 2<2:=DO (by omega)
 have hq:(y.cells.drop (Bo a.on 2*2)).take 2= [.pointer none,.pointer none]:=by rw [y.at_ hkp,hx];rfl
 refine⟨fun F w hs=>((al (X:=X) (b:=0) (p:=0) (room:=0) (s:=⟨0,[]⟩) (kb:=kb) (a:=a) y.cells_len hq).out (DG y.q0::DG y.q1::(YR y++(X::F))) w (show sat w ((cl kb 38 y.cells::DG y.q0::DG y.q1::YR y)++(X::F)) from Bb.1 (show sat w (F7 (cl kb 38 y.cells::DG y.q0::DG y.q1::YR y)::(X::F)) from hs))).mono ?_⟩
 rintro e w' ⟨g,he,hs',hk'⟩
 exact⟨⟨y,hy.grow⟩,he,Bb.2 (show sat w' ((cl kb 38 y.cells::DG y.q0::DG y.q1::YR y)++(X::F)) from hs'),hk'⟩

theorem VQ{kb m n:Nat}{y:YS}{a:AcQ}{X:Ao}(hy:YI m n y){x:SP}(hx:y.q (Bo a.on 2)=some x)(hmn:m+n<=1048580)(hk:a.kind≠0/\a.kind≠1/\a.kind≠2/\a.kind≠3/\a.kind≠4/\a.kind≠5):Ct Tryz.prog 5 [.pointer (some ⟨kb,0,none⟩),.agg (Cj a).toArray] [Jo kb y,X] (fun _: {y':YS // YI m (n+1) y'} =>.bool true) (fun g=> [Jo kb g.1,X]):=by
 have hkp:Bo a.on 2<2:=DO (by omega)
 obtain⟨hw,hsz⟩:=hy.w hx
 have hC:=y.cells_len
 have hq:(y.cells.drop (Bo a.on 2*2)).take 2= [.pointer (some ⟨x.b,0,none⟩),.pointer (some ⟨x.p,0,none⟩)]:=by rw [y.at_ hkp,hx];rfl
 refine JB (ρ:=Unit) (b':=fun g=>x.b) (s':=fun g=>x.s) hkp hx hy ?_ (fun g=>hw) (fun g=>Nat.le_succ _)
 simp only [YS.set_cells hkp hx]
 exact by
  rw [HT hq]
  exact YL (X:=X) hC hq hk hw (by omega)

theorem Pf{kb m n:Nat}{y:YS}{a:AcQ}{X:Ao}(hy:YI m n y){x:SP}(hx:y.q (Bo a.on 2)=some x)(hmn:m+n<=1048580)(hk:a.kind=1)(h1:x.s.tick<=a.at_)(h2:a.at_<=1099511627776):Ct Tryz.prog 5 [.pointer (some ⟨kb,0,none⟩),.agg (Cj a).toArray] [Jo kb y,X] (fun _: {y':YS // YI m (n+1) y'} =>.bool true) (fun g=> [Jo kb g.1,X]):=by
 have hkp:Bo a.on 2<2:=DO (by omega)
 obtain⟨hw,hsz⟩:=hy.w hx
 have hC:=y.cells_len
 have hq:(y.cells.drop (Bo a.on 2*2)).take 2= [.pointer (some ⟨x.b,0,none⟩),.pointer (some ⟨x.p,0,none⟩)]:=by rw [y.at_ hkp,hx];rfl
 refine JB (ρ:=Unit) (b':=fun g=>x.b) (s':=fun g=>⟨a.at_,BW a.at_ x.s.l⟩) hkp hx hy ?_ (fun g=>hw.tick h1 h2) (fun g=>Nat.le_trans (List.length_filterMap_le _ _) (Nat.le_succ _))
 simp only [YS.set_cells hkp hx]
 exact by
  rw [HT hq]
  exact RV (X:=X) hC hq hk hw (by omega) h1 h2

theorem Pg{kb m n:Nat}{y:YS}{a:AcQ}{X:Ao}(hy:YI m n y){x:SP}(hx:y.q (Bo a.on 2)=some x)(hmn:m+n<=1048580)(hk:a.kind=1)(h1:a.at_<x.s.tick\/1099511627776<a.at_):Ct Tryz.prog 5 [.pointer (some ⟨kb,0,none⟩),.agg (Cj a).toArray] [Jo kb y,X] (fun _: {y':YS // YI m (n+1) y'} =>.bool true) (fun g=> [Jo kb g.1,X]):=by
 have hkp:Bo a.on 2<2:=DO (by omega)
 obtain⟨hw,hsz⟩:=hy.w hx
 have hC:=y.cells_len
 have hq:(y.cells.drop (Bo a.on 2*2)).take 2= [.pointer (some ⟨x.b,0,none⟩),.pointer (some ⟨x.p,0,none⟩)]:=by rw [y.at_ hkp,hx];rfl
 refine JB (ρ:=Unit) (b':=fun g=>x.b) (s':=fun g=>x.s) hkp hx hy ?_ (fun g=>hw) (fun g=>Nat.le_succ _)
 simp only [YS.set_cells hkp hx]
 exact by
  rw [HT hq]
  exact RX (X:=X) hC hq hk hw (by omega) h1

theorem Su{kb m n:Nat}{y:YS}{a:AcQ}{X:Ao}(hy:YI m n y){x:SP}(hx:y.q (Bo a.on 2)=some x)(hmn:m+n<=1048580)(hk:a.kind=2)(hB:Sv [X] a.r.b.v 1 (eU .u8 (w:=8)) a.r.b.l a.r.b.ao a.r.b.cap)(hbl:a.r.b.l.length<=1000000):Ct Tryz.prog 5 [.pointer (some ⟨kb,0,none⟩),.agg (Cj a).toArray] [Jo kb y,X] (fun _: {y':YS // YI m (n+1) y'} =>.bool true) (fun g=> [Jo kb g.1,X]):=by
 have hkp:Bo a.on 2<2:=DO (by omega)
 obtain⟨hw,hsz⟩:=hy.w hx
 have hC:=y.cells_len
 have hq:(y.cells.drop (Bo a.on 2*2)).take 2= [.pointer (some ⟨x.b,0,none⟩),.pointer (some ⟨x.p,0,none⟩)]:=by rw [y.at_ hkp,hx];rfl
 refine JB (ρ:=Unit) (b':=fun g=>x.b) (s':=fun g=>⟨x.s.tick,(Pv (a.r.ix,a.r.num) a.r.b.l x.s.l).2⟩) hkp hx hy ?_ (fun g=>hw.sp) (fun g=>Nat.le_trans (Nat.le_of_eq (cw _ _ _)) (Nat.le_succ _))
 simp only [YS.set_cells hkp hx]
 exact by
  rw [HT hq]
  exact VS (X:=X) hC hq hk hw (by omega) hB hbl

theorem VT{kb m n:Nat}{y:YS}{a:AcQ}{X:Ao}(hy:YI m n y){x:SP}(hx:y.q (Bo a.on 2)=some x)(hmn:m+n<=1048580)(hk:a.kind=5):Ct Tryz.prog 5 [.pointer (some ⟨kb,0,none⟩),.agg (Cj a).toArray] [Jo kb y,X] (fun _: {y':YS // YI m (n+1) y'} =>.bool true) (fun g=> [Jo kb g.1,X]):=by
 have hkp:Bo a.on 2<2:=DO (by omega)
 obtain⟨hw,hsz⟩:=hy.w hx
 have hC:=y.cells_len
 have hq:(y.cells.drop (Bo a.on 2*2)).take 2= [.pointer (some ⟨x.b,0,none⟩),.pointer (some ⟨x.p,0,none⟩)]:=by rw [y.at_ hkp,hx];rfl
 refine JB (ρ:=Nat) (b':=fun g=>g) (s':=fun g=>x.s) hkp hx hy ?_ (fun g=>hw) (fun g=>Nat.le_succ _)
 simp only [YS.set_cells hkp hx]
 exact YO (X:=X) hC hq hk hw (by omega)
end Go.Proofs.YtoakfknnaiapiaaGreat
