/-
  Contracts of functions that the claim reaches, or the logic and the plain laws that they rest on, or the row over them. (Conditions: none beyond the statement.)
-/
import Derived.Test.YtoakfknnaiapiaaGreatKAU
import Derived.Test.YtoakfknnaiapiaaGreatKAA
set_option linter.all false
namespace Go.Proofs.YtoakfknnaiapiaaGreat
open Go.RowKit Go.SL Go.ShM Go.SvM
set_option maxHeartbeats 1000000
set_option maxRecDepth 20000
set_option linter.all false

theorem ap{y:YS}{k:Nat}{q:Option SP}{h:PB}{m:MV}{i:PI}{z:KI}{ha ma ia za:Option Nat}{hc mc ic zc:Nat} :YR ((y.set k q).add h m i z ha hc ma mc ia ic za zc)= [Aa y.ga y.gc 3 24 GG y.gs,Aa y.wa y.wc 3 24 GG y.ws,star (Gf 83 5 44) y.gs,star (Gf 83 5 44) y.ws,Aa ha hc 1 45 Hj (y.hs++ [h]),star (IH 5) (y.hs++ [h]),Aa ma mc 1 45 fP ((y.ms++ [m]).map MV.p),star MV.X (y.ms++ [m]),Aa ia ic 1 79 No (y.is++ [i]),star (FP 3) (y.is++ [i]),Aa za zc 1 79 Rv (y.zs++ [z])]:=by
 unfold YS.set;split <;>rfl
theorem UH{y:YS}{k:Nat}{q:Option SP}{h:PB}{m:MV}{i:PI}{z:KI}{ha ma ia za:Option Nat}{hc mc ic zc:Nat} :((y.set k q).add h m i z ha hc ma mc ia ic za zc).tail= [sl y.ga y.gs.length y.gc,sl y.wa y.ws.length y.wc,sl ha (y.hs++ [h]).length hc,sl ma ((y.ms++ [m]).map MV.p).length mc,sl ia (y.is++ [i]).length ic,sl za (y.zs++ [z]).length zc]:=by
 unfold YS.set;split <;>rfl
theorem am{kb m n:Nat}{y:YS}{a:AcQ}{X:Ao}(hy:YI m n y){x:SP}(hx:y.q (Bo a.on 2)=some x)(hmn:m+n<=1048580)(hk:a.kind=0)(hB:Sv [X] a.r.b.v 1 (eU .u8 (w:=8)) a.r.b.l a.r.b.ao a.r.b.cap)(hbl:a.r.b.l.length<=1000000):Ct Tryz.prog 5 [.pointer (some ⟨kb,0,none⟩),.agg (Cj a).toArray] [Jo kb y,X] (fun _: {y':YS // YI m (n+1) y'} =>.bool true) (fun g=> [Jo kb g.1,X]):=by
 have hkp:Bo a.on 2<2:=DO (by omega)
 obtain⟨hw,hsz⟩:=hy.w hx
 have hq:(y.cells.drop (Bo a.on 2*2)).take 2= [.pointer (some ⟨x.b,0,none⟩),.pointer (some ⟨x.p,0,none⟩)]:=by rw [y.at_ hkp,hx];rfl
 obtain⟨c0,c1,c2,c3,hc4,hcs⟩:=y.cells_four
 obtain⟨rp,er,s2,hcm⟩: ∃rp er s2,Eg x.room x.s a.at_ a.r=(rp,er,s2):=⟨_,_,_,rfl⟩
 have hrl:=Nx hw hcm
 have hl2:=IR hcm
 have hw2:=hw.call_eq hcm
 have h1:=hy.hl
 have h2:=hy.il
 have h3:=hy.zl
 have hq2:(([c0,c1,c2,c3,sl y.ga y.gs.length y.gc,sl y.wa y.ws.length y.wc,sl y.ha y.hs.length y.hc,sl y.ma (y.ms.map MV.p).length y.mc,sl y.ia y.is.length y.ic,sl y.za y.zs.length y.zc]).drop (Bo a.on 2*2)).take 2= [.pointer (some ⟨x.b,0,none⟩),.pointer (some ⟨x.p,0,none⟩)]:=by have e:=hq;rw [hcs] at e;exact e
 have h:=eH (kb:=kb) (X:=X) (room:=x.room) (s:=x.s) (c0:=c0) (c1:=c1) (c2:=c2) (c3:=c3) (g5:=sl y.ga y.gs.length y.gc) (w5:=sl y.wa y.ws.length y.wc) (hs:=y.hs) (ms:=y.ms.map MV.p) (is:=y.is) (zs:=y.zs) (ha:=y.ha) (hc:=y.hc) (ma:=y.ma) (mc:=y.mc) (ia:=y.ia) (ic:=y.ic) (za:=y.za) (zc:=y.zc) rfl hq2 hk hw (by omega) hB hbl hcm (by omega) (by rw [List.length_map,hy.ml];omega) (by omega) (by omega)
 have hst:=hy.step (x':=⟨x.b,x.p,x.room,s2⟩) hx hw2 hl2
 have hhd:=YS.set_head hkp hx s2
 generalize Bo a.on 2=k at*
 refine⟨fun F w hs=>(h.out (DG (y.q (1 -k))::Aa y.ga y.gc 3 24 GG y.gs::Aa y.wa y.wc 3 24 GG y.ws::star (Gf 83 5 44) y.gs::star (Gf 83 5 44) y.ws::star (IH 5) y.hs::star MV.X y.ms::star (FP 3) y.is::F) w ?_).mono ?_⟩
 ·have z:=Sw (F:=F) hkp hx hs
  rw [hcs] at z
  unfold YR YS.tail at z
  simp only [List.cons_append,List.nil_append] at z ⊢
  exact AS (show Gv _ [cl kb 38 [c0,c1,c2,c3,sl y.ga y.gs.length y.gc,sl y.wa y.ws.length y.wc,sl y.ha y.hs.length y.hc,sl y.ma (y.ms.map MV.p).length y.mc,sl y.ia y.is.length y.ic,sl y.za y.zs.length y.zc],Aa y.ha y.hc 1 45 Hj y.hs,Aa y.ma y.mc 1 45 fP (y.ms.map MV.p),Aa y.ia y.ic 1 79 No y.is,Aa y.za y.zc 1 79 Rv y.zs,Eu 90 102 5 x.b x.room x.s,Du 24 83 5 44 x.p x.room x.s,X] (DG (y.q (1 -k))::Aa y.ga y.gc 3 24 GG y.gs::Aa y.wa y.wc 3 24 GG y.ws::star (Gf 83 5 44) y.gs::star (Gf 83 5 44) y.ws::star (IH 5) y.hs::star MV.X y.ms::star (FP 3) y.is::F) from Gu) z
 ·rintro e w' ⟨g,he,hs',hk'⟩
  refine⟨⟨(y.set k (some ⟨x.b,x.p,x.room,s2⟩)).add (⟨g.ba,g.bc,rp.bs⟩:PB) (⟨⟨rp.bs,g.ba2,g.bc2⟩,g.GX,g.hb2⟩:MV) (⟨g.na,g.nc,rp.ns⟩:PI) (⟨rp.ns.length,g.na2,g.nc2⟩:KI) g.ha g.hc g.ma g.mc g.ia g.ic g.za g.zc,hst.add (by rw [YS.set_hs.1];exact h1) (by rw [YS.set_hs.2.2.1];exact h2) (by rw [YS.set_hs.2.2.2.1];exact h3) rfl hrl.2 (by show rp.ns.length<=_;omega) _ _ _ _ _ _ _ _⟩,he,?_,hk'⟩
  refine(JC hkp).2 ?_
  rw [show ((y.set k (some ⟨x.b,x.p,x.room,s2⟩)).add (⟨g.ba,g.bc,rp.bs⟩:PB) (⟨⟨rp.bs,g.ba2,g.bc2⟩,g.GX,g.hb2⟩:MV) (⟨g.na,g.nc,rp.ns⟩:PI) (⟨rp.ns.length,g.na2,g.nc2⟩:KI) g.ha g.hc g.ma g.mc g.ia g.ic g.za g.zc).q k=(some ⟨x.b,x.p,x.room,s2⟩) from YS.set_q,show ((y.set k (some ⟨x.b,x.p,x.room,s2⟩)).add (⟨g.ba,g.bc,rp.bs⟩:PB) (⟨⟨rp.bs,g.ba2,g.bc2⟩,g.GX,g.hb2⟩:MV) (⟨g.na,g.nc,rp.ns⟩:PI) (⟨rp.ns.length,g.na2,g.nc2⟩:KI) g.ha g.hc g.ma g.mc g.ia g.ic g.za g.zc).q (1 -k)=y.q (1 -k) from YS.set_o hkp,ap]
  rw [show ((y.set k (some ⟨x.b,x.p,x.room,s2⟩)).add (⟨g.ba,g.bc,rp.bs⟩:PB) (⟨⟨rp.bs,g.ba2,g.bc2⟩,g.GX,g.hb2⟩:MV) (⟨g.na,g.nc,rp.ns⟩:PI) (⟨rp.ns.length,g.na2,g.nc2⟩:KI) g.ha g.hc g.ma g.mc g.ia g.ic g.za g.zc).cells= [c0,c1,c2,c3]++((y.set k (some ⟨x.b,x.p,x.room,s2⟩)).add (⟨g.ba,g.bc,rp.bs⟩:PB) (⟨⟨rp.bs,g.ba2,g.bc2⟩,g.GX,g.hb2⟩:MV) (⟨g.na,g.nc,rp.ns⟩:PI) (⟨rp.ns.length,g.na2,g.nc2⟩:KI) g.ha g.hc g.ma g.mc g.ia g.ic g.za g.zc).tail from by
   show HZ (y.set k (some ⟨x.b,x.p,x.room,s2⟩)).q0++HZ (y.set k (some ⟨x.b,x.p,x.room,s2⟩)).q1++_=_
   rw [hhd,hc4],UH,List.map_append]
  simp only [List.cons_append,List.nil_append] at hs' ⊢
  have a1:=AS (show Gv _ [Aa g.ba g.bc 1 5 (eU .u8 (w:=8)) rp.bs,star (IH 5) y.hs] _ from Gu) hs'
  simp only [List.cons_append,List.nil_append] at a1
  have a2:=Ga (F:=(IH 5)) (x:=(⟨g.ba,g.bc,rp.bs⟩:PB)) a1
  have a3:=AS (show Gv _ [g.GX,star MV.X y.ms] _ from Gu) a2
  simp only [List.cons_append,List.nil_append] at a3
  have a4:=Ga (F:=MV.X) (x:=(⟨⟨rp.bs,g.ba2,g.bc2⟩,g.GX,g.hb2⟩:MV)) a3
  have a5:=AS (show Gv _ [Aa g.na g.nc 1 3 eI rp.ns,star (FP 3) y.is] _ from Gu) a4
  simp only [List.cons_append,List.nil_append] at a5
  have a6:=Ga (F:=FP 3) (x:=(⟨g.na,g.nc,rp.ns⟩:PI)) a5
  have a7:=AS (show Gv _ [Eu 90 102 5 x.b x.room s2,Du 24 83 5 44 x.p x.room s2] _ from Gu) a6
  have a8:sat w' (DG (some ⟨x.b,x.p,x.room,s2⟩)::_):=Bb.2 a7
  exact AS (show Gv _ [cl kb 38 [c0,c1,c2,c3,sl y.ga y.gs.length y.gc,sl y.wa y.ws.length y.wc,sl g.ha (y.hs++ [(⟨g.ba,g.bc,rp.bs⟩:PB)]).length g.hc,sl g.ma (y.ms.map MV.p++ [((⟨⟨rp.bs,g.ba2,g.bc2⟩,g.GX,g.hb2⟩:MV)).p]).length g.mc,sl g.ia (y.is++ [(⟨g.na,g.nc,rp.ns⟩:PI)]).length g.ic,sl g.za (y.zs++ [(⟨rp.ns.length,g.na2,g.nc2⟩:KI)]).length g.zc],DG (some ⟨x.b,x.p,x.room,s2⟩),DG (y.q (1 -k)),Aa y.ga y.gc 3 24 GG y.gs,Aa y.wa y.wc 3 24 GG y.ws,star (Gf 83 5 44) y.gs,star (Gf 83 5 44) y.ws,Aa g.ha g.hc 1 45 Hj (y.hs++ [(⟨g.ba,g.bc,rp.bs⟩:PB)]),star (IH 5) (y.hs++ [(⟨g.ba,g.bc,rp.bs⟩:PB)]),Aa g.ma g.mc 1 45 fP (y.ms.map MV.p++ [((⟨⟨rp.bs,g.ba2,g.bc2⟩,g.GX,g.hb2⟩:MV)).p]),star MV.X (y.ms++ [(⟨⟨rp.bs,g.ba2,g.bc2⟩,g.GX,g.hb2⟩:MV)]),Aa g.ia g.ic 1 79 No (y.is++ [(⟨g.na,g.nc,rp.ns⟩:PI)]),star (FP 3) (y.is++ [(⟨g.na,g.nc,rp.ns⟩:PI)]),Aa g.za g.zc 1 79 Rv (y.zs++ [(⟨rp.ns.length,g.na2,g.nc2⟩:KI)]),X] F from Gu) a8
end Go.Proofs.YtoakfknnaiapiaaGreat
namespace Go.Proofs.YtoakfknnaiapiaaGreat
open Go.RowKit Go.SL Go.ShM Go.SvM
set_option maxHeartbeats 1000000
set_option maxRecDepth 20000
set_option linter.all false

theorem Ss{kb m n:Nat}{y:YS}{a:AcQ}{X:Ao}(hy:YI m n y){x:SP}(hx:y.q (Bo a.on 2)=some x)(hmn:m+n<=1048580)(hk:a.kind=4):Ct Tryz.prog 5 [.pointer (some ⟨kb,0,none⟩),.agg (Cj a).toArray] [Jo kb y,X] (fun _: {y':YS // YI m (n+1) y'} =>.bool true) (fun g=> [Jo kb g.1,X]):=by
 have hkp:Bo a.on 2<2:=DO (by omega)
 obtain⟨hw,hsz⟩:=hy.w hx
 have hq:(y.cells.drop (Bo a.on 2*2)).take 2= [.pointer (some ⟨x.b,0,none⟩),.pointer (some ⟨x.p,0,none⟩)]:=by rw [y.at_ hkp,hx];rfl
 obtain⟨c0,c1,c2,c3,hc4,hcs⟩:=y.cells_four
 have hgl:=hy.gl
 have hwl:=hy.wl
 have hq2:(([c0,c1,c2,c3,sl y.ga y.gs.length y.gc,sl y.wa y.ws.length y.wc,sl y.ha y.hs.length y.hc,sl y.ma (y.ms.map MV.p).length y.mc,sl y.ia y.is.length y.ic,sl y.za y.zs.length y.zc]).drop (Bo a.on 2*2)).take 2= [.pointer (some ⟨x.b,0,none⟩),.pointer (some ⟨x.p,0,none⟩)]:=by have e:=hq;rw [hcs] at e;exact e
 have h:=VR (kb:=kb) (X:=X) (room:=x.room) (s:=x.s) (c0:=c0) (c1:=c1) (c2:=c2) (c3:=c3) (gs:=y.gs) (ws:=y.ws) (ga:=y.ga) (gc:=y.gc) (wa:=y.wa) (wc:=y.wc) (h6:=sl y.ha y.hs.length y.hc) (h7:=sl y.ma (y.ms.map MV.p).length y.mc) (h8:=sl y.ia y.is.length y.ic) (h9:=sl y.za y.zs.length y.zc) rfl hq2 hk hw (by omega) (by omega) (by omega)
 have htold:=fun(g w:GS) (e1:g.key=(x.room,x.s.tick,x.s.l)) (e2:w.key=(x.room,x.s.tick,x.s.l)) ga gc wa wc=>hy.told hx e1 e2 ga gc wa wc
 generalize Bo a.on 2=k at*
 refine⟨fun F w hs=>(h.out (DG (y.q (1 -k))::star (Gf 83 5 44) y.gs::star (Gf 83 5 44) y.ws::Aa y.ha y.hc 1 45 Hj y.hs::star (IH 5) y.hs::Aa y.ma y.mc 1 45 fP (y.ms.map MV.p)::star MV.X y.ms::Aa y.ia y.ic 1 79 No y.is::star (FP 3) y.is::Aa y.za y.zc 1 79 Rv y.zs::F) w ?_).mono ?_⟩
 ·have z:=Sw (F:=F) hkp hx hs
  rw [hcs] at z
  unfold YR YS.tail at z
  simp only [List.cons_append,List.nil_append] at z ⊢
  exact AS (show Gv _ [cl kb 38 [c0,c1,c2,c3,sl y.ga y.gs.length y.gc,sl y.wa y.ws.length y.wc,sl y.ha y.hs.length y.hc,sl y.ma (y.ms.map MV.p).length y.mc,sl y.ia y.is.length y.ic,sl y.za y.zs.length y.zc],Aa y.ga y.gc 3 24 GG y.gs,Aa y.wa y.wc 3 24 GG y.ws,Eu 90 102 5 x.b x.room x.s,Du 24 83 5 44 x.p x.room x.s,X] (DG (y.q (1 -k))::star (Gf 83 5 44) y.gs::star (Gf 83 5 44) y.ws::Aa y.ha y.hc 1 45 Hj y.hs::star (IH 5) y.hs::Aa y.ma y.mc 1 45 fP (y.ms.map MV.p)::star MV.X y.ms::Aa y.ia y.ic 1 79 No y.is::star (FP 3) y.is::Aa y.za y.zc 1 79 Rv y.zs::F) from Gu) z
 ·rintro e w' ⟨g,he,hs',hk'⟩
  refine⟨⟨({ y with gs:=y.gs++ [(⟨x.room,x.s.tick,⟨g.1.1.2.1,g.1.1.2.2,g.1.1.1⟩⟩:GS)],ws:=y.ws++ [(⟨x.room,x.s.tick,⟨g.1.2.1.2.1,g.1.2.1.2.2,g.1.2.1.1⟩⟩:GS)],ga:=g.1.2.2.1.1,gc:=g.1.2.2.1.2,wa:=g.1.2.2.2.1,wc:=g.1.2.2.2.2 } :YS),htold _ _ (by show (x.room,x.s.tick,_)=_;rw [g.2.1]) (by show (x.room,x.s.tick,_)=_;rw [g.2.2]) _ _ _ _⟩,he,?_,hk'⟩
  refine(JC (y:=({ y with gs:=y.gs++ [(⟨x.room,x.s.tick,⟨g.1.1.2.1,g.1.1.2.2,g.1.1.1⟩⟩:GS)],ws:=y.ws++ [(⟨x.room,x.s.tick,⟨g.1.2.1.2.1,g.1.2.1.2.2,g.1.2.1.1⟩⟩:GS)],ga:=g.1.2.2.1.1,gc:=g.1.2.2.1.2,wa:=g.1.2.2.2.1,wc:=g.1.2.2.2.2 } :YS)) hkp).2 ?_
  rw [show (({ y with gs:=y.gs++ [(⟨x.room,x.s.tick,⟨g.1.1.2.1,g.1.1.2.2,g.1.1.1⟩⟩:GS)],ws:=y.ws++ [(⟨x.room,x.s.tick,⟨g.1.2.1.2.1,g.1.2.1.2.2,g.1.2.1.1⟩⟩:GS)],ga:=g.1.2.2.1.1,gc:=g.1.2.2.1.2,wa:=g.1.2.2.2.1,wc:=g.1.2.2.2.2 } :YS)).q k=some x from hx,show (({ y with gs:=y.gs++ [(⟨x.room,x.s.tick,⟨g.1.1.2.1,g.1.1.2.2,g.1.1.1⟩⟩:GS)],ws:=y.ws++ [(⟨x.room,x.s.tick,⟨g.1.2.1.2.1,g.1.2.1.2.2,g.1.2.1.1⟩⟩:GS)],ga:=g.1.2.2.1.1,gc:=g.1.2.2.1.2,wa:=g.1.2.2.2.1,wc:=g.1.2.2.2.2 } :YS)).q (1 -k)=y.q (1 -k) from rfl]
  rw [show (({ y with gs:=y.gs++ [(⟨x.room,x.s.tick,⟨g.1.1.2.1,g.1.1.2.2,g.1.1.1⟩⟩:GS)],ws:=y.ws++ [(⟨x.room,x.s.tick,⟨g.1.2.1.2.1,g.1.2.1.2.2,g.1.2.1.1⟩⟩:GS)],ga:=g.1.2.2.1.1,gc:=g.1.2.2.1.2,wa:=g.1.2.2.2.1,wc:=g.1.2.2.2.2 } :YS)).cells= [c0,c1,c2,c3]++(({ y with gs:=y.gs++ [(⟨x.room,x.s.tick,⟨g.1.1.2.1,g.1.1.2.2,g.1.1.1⟩⟩:GS)],ws:=y.ws++ [(⟨x.room,x.s.tick,⟨g.1.2.1.2.1,g.1.2.1.2.2,g.1.2.1.1⟩⟩:GS)],ga:=g.1.2.2.1.1,gc:=g.1.2.2.1.2,wa:=g.1.2.2.2.1,wc:=g.1.2.2.2.2 } :YS)).tail from by
   show HZ y.q0++HZ y.q1++_=_
   rw [hc4]]
  unfold YR YS.tail
  simp only [List.cons_append,List.nil_append] at hs' ⊢
  have a1:=AS (show Gv _ [Aa g.1.1.2.1 g.1.1.2.2 19 83 BH g.1.1.1,star (CQ 5 44) g.1.1.1] _ from Gu) hs'
  have a2:sat w' ((Gf 83 5 44) (⟨x.room,x.s.tick,⟨g.1.1.2.1,g.1.1.2.2,g.1.1.1⟩⟩:GS)::_):=Bb.2 a1
  have a3:=AS (show Gv _ [(Gf 83 5 44) (⟨x.room,x.s.tick,⟨g.1.1.2.1,g.1.1.2.2,g.1.1.1⟩⟩:GS),star (Gf 83 5 44) y.gs] _ from Gu) a2
  simp only [List.cons_append,List.nil_append] at a3
  have a4:=Ga (F:=(Gf 83 5 44)) (x:=(⟨x.room,x.s.tick,⟨g.1.1.2.1,g.1.1.2.2,g.1.1.1⟩⟩:GS)) a3
  have a5:=AS (show Gv _ [Aa g.1.2.1.2.1 g.1.2.1.2.2 19 83 BH g.1.2.1.1,star (CQ 5 44) g.1.2.1.1] _ from Gu) a4
  have a6:sat w' ((Gf 83 5 44) (⟨x.room,x.s.tick,⟨g.1.2.1.2.1,g.1.2.1.2.2,g.1.2.1.1⟩⟩:GS)::_):=Bb.2 a5
  have a7:=AS (show Gv _ [(Gf 83 5 44) (⟨x.room,x.s.tick,⟨g.1.2.1.2.1,g.1.2.1.2.2,g.1.2.1.1⟩⟩:GS),star (Gf 83 5 44) y.ws] _ from Gu) a6
  simp only [List.cons_append,List.nil_append] at a7
  have a8:=Ga (F:=(Gf 83 5 44)) (x:=(⟨x.room,x.s.tick,⟨g.1.2.1.2.1,g.1.2.1.2.2,g.1.2.1.1⟩⟩:GS)) a7
  have a9:=AS (show Gv _ [Eu 90 102 5 x.b x.room x.s,Du 24 83 5 44 x.p x.room x.s] _ from Gu) a8
  have a10:sat w' (DG (some x)::_):=Bb.2 a9
  exact AS (show Gv _ [cl kb 38 [c0,c1,c2,c3,sl g.1.2.2.1.1 (y.gs++ [(⟨x.room,x.s.tick,⟨g.1.1.2.1,g.1.1.2.2,g.1.1.1⟩⟩:GS)]).length g.1.2.2.1.2,sl g.1.2.2.2.1 (y.ws++ [(⟨x.room,x.s.tick,⟨g.1.2.1.2.1,g.1.2.1.2.2,g.1.2.1.1⟩⟩:GS)]).length g.1.2.2.2.2,sl y.ha y.hs.length y.hc,sl y.ma (y.ms.map MV.p).length y.mc,sl y.ia y.is.length y.ic,sl y.za y.zs.length y.zc],DG (some x),DG (y.q (1 -k)),Aa g.1.2.2.1.1 g.1.2.2.1.2 3 24 GG (y.gs++ [(⟨x.room,x.s.tick,⟨g.1.1.2.1,g.1.1.2.2,g.1.1.1⟩⟩:GS)]),Aa g.1.2.2.2.1 g.1.2.2.2.2 3 24 GG (y.ws++ [(⟨x.room,x.s.tick,⟨g.1.2.1.2.1,g.1.2.1.2.2,g.1.2.1.1⟩⟩:GS)]),star (Gf 83 5 44) (y.gs++ [(⟨x.room,x.s.tick,⟨g.1.1.2.1,g.1.1.2.2,g.1.1.1⟩⟩:GS)]),star (Gf 83 5 44) (y.ws++ [(⟨x.room,x.s.tick,⟨g.1.2.1.2.1,g.1.2.1.2.2,g.1.2.1.1⟩⟩:GS)]),Aa y.ha y.hc 1 45 Hj y.hs,star (IH 5) y.hs,Aa y.ma y.mc 1 45 fP (y.ms.map MV.p),star MV.X y.ms,Aa y.ia y.ic 1 79 No y.is,star (FP 3) y.is,Aa y.za y.zc 1 79 Rv y.zs,X] F from Gu) a10
end Go.Proofs.YtoakfknnaiapiaaGreat
namespace Go.Proofs.YtoakfknnaiapiaaGreat
open Go.RowKit Go.SL Go.ShM Go.SvM
set_option maxHeartbeats 8000000
set_option maxRecDepth 20000
set_option linter.all false
theorem cf57:DF Tryz.prog 57=true:=by kernel_rfl
theorem cf79:DF Tryz.prog 79=true:=by kernel_rfl
theorem dG:fo Tryz.prog 49 3=some (3,3):=by kernel_rfl
theorem sz4:sz Tryz.prog 4=some 1:=by kernel_rfl
theorem zr4:zr Tryz.prog 4=some [.bool false]:=by kernel_rfl
theorem QG(ix:Ix)(un:Int):Er [(0,1),(1,16),(17,1),(18,1),(19,1),(20,2),(22,1)] [(0,.int .u8 2),(1,aU .u8 ix.l),(2,.int .i64 200),(5,.agg [.int .u32 5,.int .i64 un].toArray)] [.int .u8 0,.int .u8 0,.int .u8 0,.int .u8 0,.int .u8 0,.int .u8 0,.int .u8 0,.int .u8 0,.int .u8 0,.int .u8 0,.int .u8 0,.int .u8 0,.int .u8 0,.int .u8 0,.int .u8 0,.int .u8 0,.int .u8 0,.int .i64 0,.int .i64 0,.int .i64 0,.int .u32 0,.int .i64 0,.slice none 0 0]=some (CP (CS ix 200 nilB 5#32 un)):=by
 obtain⟨l,h⟩:=ix
 obtain⟨a0,a1,a2,a3,a4,a5,a6,a7,a8,a9,a10,a11,a12,a13,a14,a15,rfl⟩:=Qp l h
 kernel_rfl
theorem Wr{b:Nat}{room:Int}{s:Sv1}{ix:Ix}(hw:Wf room s)(hn:s.l.length<=100000000):Ct Tryz.prog 57 [.pointer (some ⟨b,0,none⟩),(aU .u8 ix.l)] [Eu 90 102 5 b room s] (fun g:(Nat × Nat) × (Option Nat × Nat) × (Option Nat × Nat)=>.func (.func 79) #[] #[.pointer (some ⟨g.1.1,0,none⟩),.pointer (some ⟨g.1.2,0,none⟩)]) (fun g=> [Eu 90 102 5 b room s,cl g.1.1 79 [sl g.2.1.1 (CB ix s.l).length g.2.1.2],cl g.1.2 79 [sl g.2.2.1 (CB ix s.l).length g.2.2.2],Aa g.2.1.1 g.2.1.2 1 3 eI (CB ix s.l),Aa g.2.2.1 g.2.2.2 1 3 eI (Gr ix s.l)]):=
 G6 fun q hq=>by
  obtain⟨m,L⟩:=q
  obtain⟨stk,sL⟩:=s
  simp only at hq hn ⊢
  subst hq
  refine(Wq (b:=b) (m:=m) (room:=room) (tick:=stk) (L:=L) (ix:=ix) hw.srt (by rw [List.length_map] at hn;exact hn)).reg fun g F w z=>⟨g,rfl,?_⟩
  rw [Of] at z
  exact GH (s:=⟨stk,L.map En.e⟩) m L rfl z
theorem cI{m:Md}{Q:Exit ->Act ->World ->Prop}{w0:World}{n:Nat}{c:Code}{L:List (Nat × Value)}{A R:List Ao}{p:Nat}{room:Int}{s:Sv1}(k: ∀(kms:List KM) (ka:Option Nat) (kc:Nat),kms.map KM.e=s.l ->WC Tryz.prog m Q w0 n c L (cl p 24 [.int .i64 room,.int .i64 s.tick,sl ka kms.length kc]::Aa ka kc 19 83 BH kms::star (CQ 5 44) kms::R))(hE:Ext A (Du 24 83 5 44 p room s) R:=by repeat (first|with_reducible exact Ext.here|with_reducible apply Ext.there)):WC Tryz.prog m Q w0 n c L A:=fun a w hd hf hs hk=>by
 obtain⟨q,h1,h2⟩:=FD.1 (AS hE hs)
 exact k q.1 q.2.1 q.2.2 h1 a w hd hf h2 hk
theorem L9{p:Nat}{room t:Int}{s s2:Sv1}{r:Rq}{Y:Ao}{rp:Rp}{er:Int}{kms:List KM}{ka:Option Nat}{kc:Nat}(hq:kms.map KM.e=s.l)(hw:Wf room s)(hB:Sv [Y] r.b.v 1 (eU .u8 (w:=8)) r.b.l r.b.ao r.b.cap)(hn:s.l.length<=100000000)(hc:Eg room s t r=(rp,er,s2)):
  Ct Tryz.prog 52 [.pointer (some ⟨p,0,none⟩),.int .i64 t,.agg (CP r).toArray] [cl p 24 [.int .i64 room,.int .i64 s.tick,sl ka kms.length kc],Aa ka kc 19 83 BH kms,star (CQ 5 44) kms,Y] (fun g:RpG eI rp=>.tuple #[g.v,.int .i64 er]) (fun g=> [Du 24 83 5 44 p room s2,Y,g.X]):=
 (Xr hw hB hn hc).conv (fun F w z=>E5 (s:=s) kms ka kc hq z) (fun _ _ _ z=>z)

theorem Rz{b p:Nat}{room:Int}{s:Sv1}{a:AcQ}{X:Ao}(hw:Wf room s)(hn:s.l.length<=90000000):Ct Tryz.prog 28 [(.agg ([.pointer (some ⟨b,0,none⟩),.pointer (some ⟨p,0,none⟩)]:List Value).toArray),(.agg (Cj a).toArray)] [Eu 90 102 5 b room s,Du 24 83 5 44 p room s,X] (fun g: {s':Sv1 // Wf room s'/\s'.l.length<=s.l.length+1} =>.bool true) (fun g=> [Eu 90 102 5 b room g.1,Du 24 83 5 44 p room g.1,X]):=by
 refine AY (n:=119) Tryz.func28 I I I fun F w0 Q hret hnorm hp=>?_
 change WC _ _ _ _ _ _ _ (_::_::_::F)
 refine Yb ?_
 have hnl:(CB a.r.ix s.l).length<=s.l.length:=by rw [Hq];exact Gh _ _ _
 have hzl:(Gr a.r.ix s.l).length=(CB a.r.ix s.l).length:=Of _ _
 refine A4 fun _ K1=>AB (Ay (xs:= [.pointer (some ⟨b,0,none⟩),.pointer (some ⟨p,0,none⟩)]) I I) I I I ?_
 rintro _ _ ⟨b2,rfl,rfl⟩
 refine AB (Ay (xs:=Cj a) I I) I I I ?_
 rintro _ _ ⟨b3,rfl,rfl⟩
 refine AB (AZ zr4) I I I ?_
 rintro _ _ ⟨b4,rfl,rfl⟩
 refine A3 K1<|A4 fun _ K2=>A2 (A1 I Ev) I<|A2 (A6 I JJ (v:=.pointer (some ⟨p,0,none⟩))) I<|A2 (A1 I Eb) I<|A2 (A1 I CU) I<|A2 (AI (vs:=a.r.ix.l.flatMap (eU .u8)) I Cv (hl:=by rw [Ee];omega) (hi:=J7 a)) I ?_
 refine AB (AE aV I (hs:=H3 (p:=p) (room:=room) (s:=s) (ix:=a.r.ix) (by omega))) I I I ?_
 rintro _ _ ⟨⟨⟨na,nc⟩,⟨za,zc⟩⟩,rfl,hA⟩
 simp only [ca] at hA
 subst hA
 refine Cl (fun w h=>B1 (a:=na) (cap:=nc) (e:=1) (T:=3) (f:=eI) (l:=(CB a.r.ix s.l)) Bf h) (fun hNf=>?_)
 have hNv:Sv [Aa na nc 1 3 eI (CB a.r.ix s.l)] (sl na (CB a.r.ix s.l).length nc) 1 eI (CB a.r.ix s.l) (na.map fun g=>⟨g,0,none⟩) nc:=BM Jl hNf.1 hNf.2
 refine Cl (fun w h=>B1 (a:=za) (cap:=zc) (e:=1) (T:=3) (f:=eI) (l:=(Gr a.r.ix s.l)) Bf h) (fun hZf=>?_)
 have hZv:Sv [Aa za zc 1 3 eI (Gr a.r.ix s.l)] (sl za (Gr a.r.ix s.l).length zc) 1 eI (Gr a.r.ix s.l) (za.map fun g=>⟨g,0,none⟩) zc:=BM Jl hZf.1 hZf.2
 rw [hzl] at hZv
 rw [hzl]
 refine wM I I<|A2 (BE I) I<|A2 (BN I) I<|AB (AZ Rw) I I I ?_
 rintro _ _ ⟨b5,rfl,rfl⟩
 refine AB (AZ Rw) I I I ?_
 rintro _ _ ⟨b6,rfl,rfl⟩
 refine AX (Ar (ys:= [sl na (CB a.r.ix s.l).length nc]) I I IL (hr:=I)) I I ?_
 rintro _ _ rfl
 refine AX (Ar (ys:= [sl za (CB a.r.ix s.l).length zc]) I I IL (hr:=I)) I I ?_
 rintro _ _ rfl
 refine A3 K2<|A4 fun _ K3=>A2 (A1 I Dh) I<|A2 (A6 I GN (v:=.pointer (some ⟨b,0,none⟩))) I<|A2 (A1 I Eb) I<|A2 (A1 I CU) I<|A2 (AI (vs:=a.r.ix.l.flatMap (eU .u8)) I Cv (hl:=by rw [Ee];omega) (hi:=J7 a)) I ?_
 refine AB (AE cf57 I (hs:=Wr (b:=b) (room:=room) (s:=s) (ix:=a.r.ix) hw (by omega))) I I I ?_
 rintro _ _ ⟨⟨⟨u1,u2⟩,⟨a1,c1⟩,⟨a2,c2⟩⟩,rfl,hA⟩
 simp only [ca] at hA
 subst hA
 refine wA I I<|A3 K3<|A7 fun _ K4=>A4 fun _ K5=>wM I I ?_
 first|refine As (eX rfl rfl Tryz.underlying124) rfl rfl rfl ?_|refine As (bH rfl rfl Tryz.underlying124) rfl rfl rfl ?_
 refine A3 K5<|AM I<|AA<|A5 K4<|A7 fun _ K6=>A4 fun _ K7=>AB (AZ UA) I I I ?_
 rintro _ _ ⟨b8,rfl,rfl⟩
 refine AX (Ar I I Fw) I I ?_
 rintro _ _ rfl
 refine A3 K7<|AG ?_
 rw [show cl b8 3 [.int .i64 0]=cl b8 3 [.int .i64 ((0:Nat):Int)] from rfl]
 refine VZ (σ:=Nat × (List Nat) × Nat × Sv1) (fun ⟨r,Ds,r5,s1⟩=> [(8,.pointer (some ⟨r5,0,none⟩))]) (fun ⟨r,Ds,r5,s1⟩=> [PW Ds,cl r5 3 [.int .i64 ((r:Nat):Int)],Eu 90 102 5 b room s1,Du 24 83 5 44 p room s1]) (fun ⟨r,Ds,r5,s1⟩=>r<=3/\Wf room s1/\s1.l.length<=s.l.length+1/\((r<=1 ->s1.l.length<=s.l.length))) (fun ⟨r,Ds,r5,s1⟩=>3 -r) (fun ⟨r,Ds,r5,s1⟩=>Ds.map aI) ⟨0,[],b8,s⟩ [2,3,4,5,6,7,39,40] Cw D8 ?_ rfl ?_ Sub.refl ?_
 ·exact⟨Nat.zero_le _,hw,Nat.le_succ _,fun _=>Nat.le_refl _⟩
 ·(try dsimp only);exact(Wk.cons Ch Wk.nil)
 rintro⟨r,Ds,r5,s1⟩ ⟨hr3,hw1,hs1,hs2⟩ K8 K8
 simp only [List.cons_append,List.nil_append]
 refine A7 fun _ K9=>A4 fun _ K10=>A2 (A6 I BF (v:=.int .i64 ((r:Nat):Int))) I<|A2 (An (j:=3) I I) I<|A3 K10<|AH I (fun hc1=>?_) (fun hc1=>?_)
 ·try simp only [dz] at hc1
  refine AA<|A5 K9<|A7 fun _ K11=>AG<|A4 fun _ K12=>AB (AZ UA) I I I ?_
  rintro _ _ ⟨b9,rfl,rfl⟩
  refine AX (Ar I I Fw) I I ?_
  rintro _ _ rfl
  refine A3 K12<|A7 fun _ K13=>A4 fun _ K14=>wM I I<|A3 K14<|AG ?_
  rw [show cl b9 3 [.int .i64 0]=cl b9 3 [.int .i64 ((0:Nat):Int)] from rfl]
  refine YZ (f:=79) (caps:= [.pointer (some ⟨u1,0,none⟩),.pointer (some ⟨u2,0,none⟩)]) I cf79 fun lrf_0 Drf_0 rrf_0 hstrf_0 hpdrf_0 hparf_0 hasrf_0 hbdrf_0 hfrrf_0=>?_
  have hyrf_0: ∀(i:Nat) (n sz:Int),(CB a.r.ix s.l)[i]? =some n ->(Gr a.r.ix s.l)[i]? =some sz ->Yd Tryz.prog lrf_0 [.int .i64 n,.int .i64 sz] [(fun (i:Nat)=>M7 (fun (_u:Unit)=>True) (fun (_u:Unit)=> [lp lrf_0 rrf_0,cl b9 3 [.int .i64 ((i:Nat):Int)],cl r5 3 [.int .i64 ((r:Nat):Int)],cl b5 79 [sl na (CB a.r.ix s.l).length nc],cl b6 79 [sl za (CB a.r.ix s.l).length zc],Aa na nc 1 3 eI (CB a.r.ix s.l),Aa za zc 1 3 eI (Gr a.r.ix s.l),cl b3 49 (Cj a)])) i] (fun b:Bool=>.bool b) (fun b=> [bif b then (fun (i:Nat)=>M7 (fun (_u:Unit)=>True) (fun (_u:Unit)=> [lp lrf_0 rrf_0,cl b9 3 [.int .i64 ((i:Nat):Int)],cl r5 3 [.int .i64 ((r:Nat):Int)],cl b5 79 [sl na (CB a.r.ix s.l).length nc],cl b6 79 [sl za (CB a.r.ix s.l).length zc],Aa na nc 1 3 eI (CB a.r.ix s.l),Aa za zc 1 3 eI (Gr a.r.ix s.l),cl b3 49 (Cj a)])) (i+1) else (M7 (fun (n':Nat)=>r=1) (fun (n':Nat)=> [lp lrf_0 (Yu rrf_0 (.exit 2)),cl b9 3 [.int .i64 ((n':Nat):Int)],cl r5 3 [.int .i64 ((r:Nat):Int)],cl b5 79 [sl na (CB a.r.ix s.l).length nc],cl b6 79 [sl za (CB a.r.ix s.l).length zc],Aa na nc 1 3 eI (CB a.r.ix s.l),Aa za zc 1 3 eI (Gr a.r.ix s.l),cl b3 49 (Cj a)]))]):=by
   intro i n sz hni hsi
   refine YU ?_
   rintro _u hφ
   refine YT (pre:= [cl b9 3 [.int .i64 ((i:Nat):Int)],cl r5 3 [.int .i64 ((r:Nat):Int)],cl b5 79 [sl na (CB a.r.ix s.l).length nc],cl b6 79 [sl za (CB a.r.ix s.l).length zc],Aa na nc 1 3 eI (CB a.r.ix s.l),Aa za zc 1 3 eI (Gr a.r.ix s.l),cl b3 49 (Cj a)]) hstrf_0 hpdrf_0 hparf_0 hasrf_0 hbdrf_0 hfrrf_0 I I fun F w0 Q K hp hend hbeg=>?_
   change WC _ _ _ _ _ _ ((40,.int .i64 sz)::(39,.int .i64 n)::_) (_::_::_::_::_::_::_::_::F)
   dsimp only at*
   have hil:=(List.getElem?_eq_some_iff.1 hni).1
   refine A4 fun _ K15=>wA I I<|A3 K15<|AD<|wA I I<|AW<|hbeg (by repeat (first|with_reducible exact Ext.here|with_reducible apply Ext.there)) ?_
   refine AG<|A7 fun _ K16=>A4 fun _ K17=>A2 (A6 I BF (v:=.int .i64 ((i:Nat):Int))) I<|A2 (A6 I Gw (v:=sl na (CB a.r.ix s.l).length nc)) I<|A2 (AL (v:=.int .i64 (((CB a.r.ix s.l).length:Nat):Int)) (BA I I Dv) I) I<|A2 (HI (Bl I I)) I ?_
   refine wM I I<|wM I I<|A2 (A6 I Gw (v:=sl na (CB a.r.ix s.l).length nc)) I<|A2 (A6 I BF (v:=.int .i64 ((i:Nat):Int))) I<|A2 (AO i I I Dv Fw (hA:=hNv) (hi:=by omega)) I ?_
   refine A2 (Af (f:=eI) (i:=i) (j:=0) (y:=n) I BF (hA:=hNv) (hl:=hni)) I ?_
   refine A2 (HI (Dy I I)) I ?_
   refine A2 (A8 I I) I<|wM I I<|wM I I<|A2 (A6 I Gw (v:=sl za (CB a.r.ix s.l).length zc)) I<|A2 (A6 I BF (v:=.int .i64 ((i:Nat):Int))) I<|A2 (AO i I I Dv Fw (hA:=hZv) (hi:=by omega)) I ?_
   refine A2 (Af (f:=eI) (i:=i) (j:=0) (y:=sz) I BF (hA:=hZv) (hl:=hsi)) I ?_
   refine A2 (HI (Dy I I)) I ?_
   refine A2 (A8 I I) I<|A3 K17<|AM I<|AA<|A5 K16<|A4 fun _ K18=>A2 (A6 I BF (v:=.int .i64 ((i:Nat):Int))) I<|A2 (AN (j:=1) I I) I<|AX (Ar I I Fw) I I ?_
   rintro _ _ rfl
   refine A3 K18<|A4 fun _ K19=>A2 (A6 I BF (v:=.int .i64 ((r:Nat):Int))) I<|A2 (Ab (j:=1) I I) I<|wM I I<|Ae 65 I (fun hg20=>?_) (fun hg20=>?_)
   ·try simp only [dz] at hg20
    refine A2 (A6 I BF (v:=.int .i64 (((i+1):Nat):Int))) I<|A2 (A1 I dG) I<|A2 (A6 I BF (v:=.int .i64 a.stop) (hi:=aB a)) I<|A2 (DI I I) I ?_
    refine A2 (AC I I) I<|A3 K19<|AH I (fun hc3=>?_) (fun hc3=>?_)
    ·try simp only [dz] at hc3
     refine Aj<|hend.exi 2 false I (by repeat (first|with_reducible exact Ext.here|with_reducible apply Ext.there)) ?_
     try simp only [List.cons_append,List.nil_append,cond_true,cond_false]
     exact N8 (i+1) (by omega) (by (try dsimp only);(try simp only [List.cons_append,List.nil_append]);repeat (first|with_reducible exact Sub.refl|with_reducible exact Sub.nil|with_reducible refine Sub.cons (by repeat (first|with_reducible exact Ext.here|with_reducible apply Ext.there)) ?_|with_reducible refine Sub.tail ?_))
    ·try simp only [dz] at hc3
     refine AA<|hend.nrm true I (by repeat (first|with_reducible exact Ext.here|with_reducible apply Ext.there)) ?_
     try simp only [List.cons_append,List.nil_append,cond_true,cond_false]
     exact N8 (()) (trivial) (by (try dsimp only);(try simp only [List.cons_append,List.nil_append]);repeat (first|with_reducible exact Sub.refl|with_reducible exact Sub.nil|with_reducible refine Sub.cons (by repeat (first|with_reducible exact Ext.here|with_reducible apply Ext.there)) ?_|with_reducible refine Sub.tail ?_))
   ·try simp only [dz] at hg20
    refine wK I<|wK I<|wK I<|wK I<|A2 (A8 I I) I<|A3 K19<|AM I<|AA<|hend.nrm true I (by repeat (first|with_reducible exact Ext.here|with_reducible apply Ext.there)) ?_
    try simp only [List.cons_append,List.nil_append,cond_true,cond_false]
    exact N8 (()) (trivial) (by (try dsimp only);(try simp only [List.cons_append,List.nil_append]);repeat (first|with_reducible exact Sub.refl|with_reducible exact Sub.nil|with_reducible refine Sub.cons (by repeat (first|with_reducible exact Ext.here|with_reducible apply Ext.there)) ?_|with_reducible refine Sub.tail ?_))
  refine⟨_,_,_,_,_,Uu (X:=(fun (i:Nat)=>M7 (fun (_u:Unit)=>True) (fun (_u:Unit)=> [lp lrf_0 rrf_0,cl b9 3 [.int .i64 ((i:Nat):Int)],cl r5 3 [.int .i64 ((r:Nat):Int)],cl b5 79 [sl na (CB a.r.ix s.l).length nc],cl b6 79 [sl za (CB a.r.ix s.l).length zc],Aa na nc 1 3 eI (CB a.r.ix s.l),Aa za zc 1 3 eI (Gr a.r.ix s.l),cl b3 49 (Cj a)]))) (J:=(M7 (fun (n':Nat)=>r=1) (fun (n':Nat)=> [lp lrf_0 (Yu rrf_0 (.exit 2)),cl b9 3 [.int .i64 ((n':Nat):Int)],cl r5 3 [.int .i64 ((r:Nat):Int)],cl b5 79 [sl na (CB a.r.ix s.l).length nc],cl b6 79 [sl za (CB a.r.ix s.l).length zc],Aa na nc 1 3 eI (CB a.r.ix s.l),Aa za zc 1 3 eI (Gr a.r.ix s.l),cl b3 49 (Cj a)]))) (u1:=u1) (u2:=u2) (ns:=(CB a.r.ix s.l)) (ss:=(Gr a.r.ix s.l)) (a1:=a1) (a2:=a2) (c1:=c1) (c2:=c2) hyrf_0 hzl (by omega),SZ (Y:= [_,_,_,_]) ((())) (trivial) Gu D8,?_⟩
  rintro(_|_)
  ·skip
   simp only [List.cons_append,List.nil_append,cond_true,cond_false]
   refine Kb ?_
   rintro n' hJ
   simp only [List.cons_append,List.nil_append]
   refine Vd ?_
   refine Aj<|A5 K13<|A7 fun _ K21=>A4 fun _ K22=>A2 (A6 I BF (v:=.int .i64 ((r:Nat):Int))) I<|A2 (Bj (j:=1) I I) I ?_
   refine wM I I<|Ae 73 I (fun hg23=>?_) (fun hg23=>?_)
   ·try simp only [dz] at hg23
    exfalso
    first|omega|(simp_all;done)
   try simp only [dz] at hg23
   refine wK I<|wK I<|wK I<|wK I<|A2 (A8 I I) I<|A3 K22<|AM I<|AA<|A5 K21<|A4 fun _ K24=>A2 (A6 I BF (v:=.int .i64 ((r:Nat):Int))) I<|A2 (Ab (j:=1) I I) I<|A3 K24<|AH I (fun hc5=>?_) (fun hc5=>?_)
   ·try simp only [dz] at hc5
    have hr1:r=1:=by first|omega|(simp_all;done)
    obtain⟨rp,er,s2,hcq⟩: ∃rp er s2,Eg room s1 s1.tick (CS a.r.ix 200 nilB 5#32 s1.tick)=(rp,er,s2):=⟨_,_,_,rfl⟩
    have hl2:=IR hcq
    refine cI fun kms2 ka2 kc2 hkq=>?_
    refine A7 fun _ K25=>Cx (B0:= []) (σ:=Nat) (fun b12=> [(12,.pointer (some ⟨b12,0,none⟩))]) (fun b12=> [cl b12 47 (CP (CS a.r.ix 200 nilB 5#32 s1.tick))]) (fun b12=>True) [2,3,4,5,6,7,8,9,10,11,13,14,15,16,34,35,36,37,38,39,40,41,42,43,44,45,46,47,48,49,50,51,52,53,54,55,56,57,58,59,60,61,62,63,64,65,66,67,68,69,70,71,72,73,74,75,76,77,78,79,80,91,92,93,94,95,96,97,98,99,100,101,102,103,104,105,106,107,108,109,110,111,112,113,114,115,116,117,118] Cw D8 ?_ ?_
    ·intro K26
     refine BC CE [cl b2 29 [.pointer (some ⟨b,0,none⟩),.pointer (some ⟨p,0,none⟩)],cl b3 49 (Cj a),cl p 24 [.int .i64 room,.int .i64 s1.tick,sl ka2 kms2.length kc2]] (fun i=>([2,2,2,2,2,2,2,2,2,2,1,1]:List Nat).getD i 0) ?_
     refine jP 0 I (A1 I Eb) I hp<|jP 1 I (A1 I CU) I hp<|jT 2 I (AI (vs:=a.r.ix.l.flatMap (eU .u8)) I Cv (hl:=by rw [Ee];omega) (hi:=J7 a)) I hp AQ ?_
     refine jP 3 I (A1 I Ev) I hp<|jT 4 I (A6 I JJ (v:=.pointer (some ⟨p,0,none⟩))) I hp AQ<|jP 5 I (A9 I) I hp<|jP 6 I (A1 I Di) I hp<|jT 7 I (A6 I BF (v:=.int .i64 s1.tick)) I hp AQ<|jP 8 I (AL (v:=.agg ([.int .u32 5,.int .i64 s1.tick]:List Value).toArray) (Ah Mj I) I) I hp<|jP 9 I (AL (v:=.agg (CP (CS a.r.ix 200 nilB 5#32 s1.tick)).toArray) (Ah Wa I (hf:=QG _ _)) I) I hp ?_
     refine jO 10<|B7 I (AZ Yx) I I I I ?_
     rintro _ _ ⟨b12,rfl,rfl⟩
     refine⟨(fun _=>Bh),?_⟩
     refine jO 11<|Cg I (AV (ys:=CP (CS a.r.ix 200 nilB 5#32 s1.tick)) I I Z4 (h1:=by simpa [Value.cells] using encRq.one (CS a.r.ix 200 nilB 5#32 s1.tick)) (hv:=by simpa [Value.cells] using encRq.len (CS a.r.ix 200 nilB 5#32 s1.tick)) (hr:=by simp [Value.cells])) I I I ?_
     rintro _ _ rfl
     refine⟨(fun _=>Bh),?_⟩
     refine jD<|Az (K26 (b12) (trivial))
    rintro b12 -
    simp only [List.cons_append,List.nil_append]
    refine A5 K25<|A7 fun _ K27=>Cx (B0:= [Eu 90 102 5 b room s1]) (σ:=Unit) (fun _u=> [(14,.int .i64 er)]) (fun _u=> [Eu 90 102 5 b room s2]) (fun _u=>True) [2,3,4,5,6,7,8,9,10,11,12,15,16,34,35,36,37,38,39,40,41,42,43,44,45,46,47,48,49,50,51,52,53,54,55,56,57,58,59,60,61,62,63,64,65,66,67,68,69,70,71,72,73,74,75,76,77,78,79,80,81,82,83,84,85,86,87,88,89,90,103,104,105,106,107,108,109,110,111,112,113,114,115,116,117,118] Cw D8 ?_ ?_
    ·intro K28
     refine BC CE [cl b2 29 [.pointer (some ⟨b,0,none⟩),.pointer (some ⟨p,0,none⟩)],cl b12 47 (CP (CS a.r.ix 200 nilB 5#32 s1.tick)),cl p 24 [.int .i64 room,.int .i64 s1.tick,sl ka2 kms2.length kc2]] (fun i=>([2,2,2,2,2,2,2,2,1,2,2,2,1,1,2]:List Nat).getD i 0) ?_
     refine jP 0 I (A1 I Dh) I hp<|jT 1 I (A6 I GN (v:=.pointer (some ⟨b,0,none⟩))) I hp AQ<|jP 2 I (A1 I Ev) I hp<|jT 3 I (A6 I JJ (v:=.pointer (some ⟨p,0,none⟩))) I hp AQ<|jP 4 I (A9 I) I hp<|jP 5 I (A1 I Di) I hp<|jT 6 I (A6 I BF (v:=.int .i64 s1.tick)) I hp AQ<|jT 7 I (AI (vs:=CP (CS a.r.ix 200 nilB 5#32 s1.tick)) I EG (hl:=by rw [B5];omega) (hi:=CM _)) I hp AQ ?_
     refine Gp (rs:= [8,12]) (by kernel_rfl) I ?_
     refine Dc ?_ (Dc ?_ (by intro _ h;cases h))
     ·skip
      refine B7 I (AE Y7 I (hs:=PT (b:=b) (room:=room) (t:=s1.tick) (s:=s1) (s2:=s2) (r:=(CS a.r.ix 200 nilB 5#32 s1.tick)) (Y:=X) (rp:=rp) (er:=er) hw1 F3 (by omega) hcq)) I I I I ?_
      rintro _ _ ⟨gr,rfl,hA⟩
      simp only [ca] at hA
      subst hA
      refine⟨(fun _=>Bh),?_⟩
      refine jM 9 I I I hp<|jP 10 I (BE I) I hp<|jP 11 I (BN I) I hp<|jO 12<|B7 I (AZ Ce) I I I I ?_
      rintro _ _ ⟨b13,rfl,rfl⟩
      refine⟨(fun _=>Bh),?_⟩
      refine jO 13<|Cg I (AV (ys:= [.int .u8 rp.kind,gr.nv,gr.bv]) I I Ba (h1:=by simp [RpG.v,BD,Value.cells,Value.oneCell',gr.hn.val,gr.hb.val]) (hr:=I)) I I I ?_
      rintro _ _ rfl
      refine⟨(fun _=>Bh),?_⟩
      refine jP 14 I (Ag I) I hp<|jD<|Az (K28 (()) (trivial))
     skip
     refine B7 I (AZ Ce) I I I I ?_
     rintro _ _ ⟨b13,rfl,rfl⟩
     refine⟨(fun _=>Bh),?_⟩
     refine jO 8<|B7 I (AE Y7 I (hs:=PT (b:=b) (room:=room) (t:=s1.tick) (s:=s1) (s2:=s2) (r:=(CS a.r.ix 200 nilB 5#32 s1.tick)) (Y:=X) (rp:=rp) (er:=er) hw1 F3 (by omega) hcq)) I I I I ?_
     rintro _ _ ⟨gr,rfl,hA⟩
     simp only [ca] at hA
     subst hA
     refine⟨(fun _=>Bh),?_⟩
     refine jM 9 I I I hp<|jP 10 I (BE I) I hp<|jP 11 I (BN I) I hp<|jO 13<|Cg I (AV (ys:= [.int .u8 rp.kind,gr.nv,gr.bv]) I I Ba (h1:=by simp [RpG.v,BD,Value.cells,Value.oneCell',gr.hn.val,gr.hb.val]) (hr:=I)) I I I ?_
     rintro _ _ rfl
     refine⟨(fun _=>Bh),?_⟩
     refine jP 14 I (Ag I) I hp<|jD<|Az (K28 (()) (trivial))
    rintro _u -
    simp only [List.cons_append,List.nil_append]
    refine A5 K27<|A7 fun _ K29=>Cx (B0:= [cl p 24 [.int .i64 room,.int .i64 s1.tick,sl ka2 kms2.length kc2],Aa ka2 kc2 19 83 BH kms2,star (CQ 5 44) kms2]) (σ:=Unit) (fun _u=> [(16,.int .i64 er)]) (fun _u=> [Du 24 83 5 44 p room s2]) (fun _u=>True) [2,3,4,5,6,7,8,9,10,11,12,13,14,34,35,36,37,38,39,40,41,42,43,44,45,46,47,48,49,50,51,52,53,54,55,56,57,58,59,60,61,62,63,64,65,66,67,68,69,70,71,72,73,74,75,76,77,78,79,80,81,82,83,84,85,86,87,88,89,90,91,92,93,94,95,96,97,98,99,100,101,102,115,116,117,118] Cw D8 ?_ ?_
    ·intro K30
     refine BC CE [cl b2 29 [.pointer (some ⟨b,0,none⟩),.pointer (some ⟨p,0,none⟩)],cl b12 47 (CP (CS a.r.ix 200 nilB 5#32 s1.tick))] (fun i=>([2,2,2,2,2,2,2,2,1,2,2,2,1,1,2]:List Nat).getD i 0) ?_
     refine jP 0 I (A1 I Ev) I hp<|jT 1 I (A6 I JJ (v:=.pointer (some ⟨p,0,none⟩))) I hp AQ<|jP 2 I (A1 I Ev) I hp<|jT 3 I (A6 I JJ (v:=.pointer (some ⟨p,0,none⟩))) I hp AQ<|jP 4 I (A9 I) I hp<|jP 5 I (A1 I Di) I hp<|jT 7 I (AI (vs:=CP (CS a.r.ix 200 nilB 5#32 s1.tick)) I EG (hl:=by rw [B5];omega) (hi:=CM _)) I hp AQ ?_
     refine Gp (rs:= [6,12]) (by kernel_rfl) I ?_
     refine Dc ?_ (Dc ?_ (by intro _ h;cases h))
     ·skip
      refine I8 I (A6 I BF (v:=.int .i64 s1.tick)) I I I (fun h=>by cases h) ?_
      refine Gp (rs:= [8,12]) (by kernel_rfl) I ?_
      refine Dc ?_ (Dc ?_ (by intro _ h;cases h))
      ·skip
       refine B7 I (AE So I (hs:=L9 (p:=p) (room:=room) (t:=s1.tick) (s:=s1) (s2:=s2) (r:=(CS a.r.ix 200 nilB 5#32 s1.tick)) (Y:=X) (rp:=rp) (er:=er) (kms:=kms2) (ka:=ka2) (kc:=kc2) hkq hw1 F3 (by omega) hcq)) I I I I ?_
       rintro _ _ ⟨gd,rfl,hA⟩
       simp only [ca] at hA
       subst hA
       refine⟨(fun _=>Bh),?_⟩
       refine jM 9 I I I hp<|jP 10 I (BE I) I hp<|jP 11 I (BN I) I hp<|jO 12<|B7 I (AZ Ce) I I I I ?_
       rintro _ _ ⟨b15,rfl,rfl⟩
       refine⟨(fun _=>Bh),?_⟩
       refine jO 13<|Cg I (AV (ys:= [.int .u8 rp.kind,gd.nv,gd.bv]) I I Ba (h1:=by simp [RpG.v,BD,Value.cells,Value.oneCell',gd.hn.val,gd.hb.val]) (hr:=I)) I I I ?_
       rintro _ _ rfl
       refine⟨(fun _=>Bh),?_⟩
       refine jP 14 I (Ag I) I hp<|jD<|Az (K30 (()) (trivial))
      skip
      refine B7 I (AZ Ce) I I I I ?_
      rintro _ _ ⟨b15,rfl,rfl⟩
      refine⟨(fun _=>Bh),?_⟩
      refine jO 8<|B7 I (AE So I (hs:=L9 (p:=p) (room:=room) (t:=s1.tick) (s:=s1) (s2:=s2) (r:=(CS a.r.ix 200 nilB 5#32 s1.tick)) (Y:=X) (rp:=rp) (er:=er) (kms:=kms2) (ka:=ka2) (kc:=kc2) hkq hw1 F3 (by omega) hcq)) I I I I ?_
      rintro _ _ ⟨gd,rfl,hA⟩
      simp only [ca] at hA
      subst hA
      refine⟨(fun _=>Bh),?_⟩
      refine jM 9 I I I hp<|jP 10 I (BE I) I hp<|jP 11 I (BN I) I hp<|jO 13<|Cg I (AV (ys:= [.int .u8 rp.kind,gd.nv,gd.bv]) I I Ba (h1:=by simp [RpG.v,BD,Value.cells,Value.oneCell',gd.hn.val,gd.hb.val]) (hr:=I)) I I I ?_
      rintro _ _ rfl
      refine⟨(fun _=>Bh),?_⟩
      refine jP 14 I (Ag I) I hp<|jD<|Az (K30 (()) (trivial))
     skip
     refine B7 I (AZ Ce) I I I I ?_
     rintro _ _ ⟨b15,rfl,rfl⟩
     refine⟨(fun _=>Bh),?_⟩
     refine jO 6<|I8 I (A6 I BF (v:=.int .i64 s1.tick)) I I I (fun h=>by cases h) ?_
     refine jO 8<|B7 I (AE So I (hs:=L9 (p:=p) (room:=room) (t:=s1.tick) (s:=s1) (s2:=s2) (r:=(CS a.r.ix 200 nilB 5#32 s1.tick)) (Y:=X) (rp:=rp) (er:=er) (kms:=kms2) (ka:=ka2) (kc:=kc2) hkq hw1 F3 (by omega) hcq)) I I I I ?_
     rintro _ _ ⟨gd,rfl,hA⟩
     simp only [ca] at hA
     subst hA
     refine⟨(fun _=>Bh),?_⟩
     refine jM 9 I I I hp<|jP 10 I (BE I) I hp<|jP 11 I (BN I) I hp<|jO 13<|Cg I (AV (ys:= [.int .u8 rp.kind,gd.nv,gd.bv]) I I Ba (h1:=by simp [RpG.v,BD,Value.cells,Value.oneCell',gd.hn.val,gd.hb.val]) (hr:=I)) I I I ?_
     rintro _ _ rfl
     refine⟨(fun _=>Bh),?_⟩
     refine jP 14 I (Ag I) I hp<|jD<|Az (K30 (()) (trivial))
    rintro _u -
    simp only [List.cons_append,List.nil_append]
    refine A5 K29<|A4 fun _ K31=>wM I I<|wM I I<|A2 (AL (v:=.bool false) (Dy I I) (by simp)) I<|A3 K31<|AM I<|AA<|A5 K11<|A7 fun _ K32=>A4 fun _ K33=>A2 (A6 I BF (v:=.int .i64 ((r:Nat):Int))) I<|A3 K33<|AD<|AB (AZ UA) I I I ?_
    rintro _ _ ⟨b8,rfl,rfl⟩
    refine AX (Ar I I Fw) I I ?_
    rintro _ _ rfl
    refine AW<|A5 K32<|AD<|A2 (A6 I BF (v:=.int .i64 ((r:Nat):Int))) I<|A2 (AN (j:=1) I I) I<|AX (Ar I I Fw) I I ?_
    rintro _ _ rfl
    refine AW<|Pq (D:=Drf_0) ?_
    refine Az (K8 ⟨r+1,Drf_0::Ds,b8,s2⟩ (⟨by (try dsimp only);omega,hw1.call_eq hcq,by(try dsimp only);have:=hs2 (by omega);omega,fun q=>absurd q (by (try dsimp only);omega)⟩) (by (try dsimp only);omega))
   try simp only [dz] at hc5
   exfalso
   first|omega|(simp_all;done)
  simp only [List.cons_append,List.nil_append,cond_true,cond_false]
  refine Kb ?_
  rintro _u hφ
  simp only [List.cons_append,List.nil_append]
  refine LH hstrf_0 hpdrf_0 ?_
  refine A5 K13<|A7 fun _ K34=>A4 fun _ K35=>A2 (A6 I BF (v:=.int .i64 ((r:Nat):Int))) I<|A2 (Bj (j:=1) I I) I ?_
  refine wM I I<|Ae 73 I (fun hg36=>?_) (fun hg36=>?_)
  ·try simp only [dz] at hg36
   refine A2 (A6 I BF (v:=_)) I ?_
   refine A2 (A6 I Gw (v:=sl na (CB a.r.ix s.l).length nc)) I<|A2 (AL (v:=.int .i64 (((CB a.r.ix s.l).length:Nat):Int)) (BA I I Dv) I) I<|A2 (Bj I I) I ?_
   refine A2 (AC I I) I<|A3 K35<|AH I (fun hc4=>?_) (fun hc4=>?_)
   ·try simp only [dz] at hc4
    exfalso
    first|omega|(simp_all;done)
   try simp only [dz] at hc4
   refine AA<|A5 K34<|A4 fun _ K37=>A2 (A6 I BF (v:=.int .i64 ((r:Nat):Int))) I<|A2 (Ab (j:=1) I I) I<|A3 K37<|AH I (fun hc5=>?_) (fun hc5=>?_)
   ·try simp only [dz] at hc5
    exfalso
    first|omega|(simp_all;done)
   try simp only [dz] at hc5
   have hr1:r≠1:=by first|omega|(simp_all;done)
   refine AA<|A5 K11<|A7 fun _ K38=>A4 fun _ K39=>A2 (A6 I BF (v:=.int .i64 ((r:Nat):Int))) I<|A3 K39<|AD<|AB (AZ UA) I I I ?_
   rintro _ _ ⟨b8,rfl,rfl⟩
   refine AX (Ar I I Fw) I I ?_
   rintro _ _ rfl
   refine AW<|A5 K38<|AD<|A2 (A6 I BF (v:=.int .i64 ((r:Nat):Int))) I<|A2 (AN (j:=1) I I) I<|AX (Ar I I Fw) I I ?_
   rintro _ _ rfl
   refine AW<|Pq (D:=Drf_0) ?_
   refine Az (K8 ⟨r+1,Drf_0::Ds,b8,s1⟩ (⟨by (try dsimp only);omega,hw1,hs1,fun q=>hs2 (by (try dsimp only at q);omega)⟩) (by (try dsimp only);omega))
  try simp only [dz] at hg36
  refine wK I<|wK I<|wK I<|wK I<|A2 (A8 I I) I<|A3 K35<|AM I<|AA<|A5 K34<|A4 fun _ K40=>A2 (A6 I BF (v:=.int .i64 ((r:Nat):Int))) I<|A2 (Ab (j:=1) I I) I<|A3 K40<|AH I (fun hc5=>?_) (fun hc5=>?_)
  ·try simp only [dz] at hc5
   have hr1:r=1:=by first|omega|(simp_all;done)
   obtain⟨rp,er,s2,hcq⟩: ∃rp er s2,Eg room s1 s1.tick (CS a.r.ix 200 nilB 5#32 s1.tick)=(rp,er,s2):=⟨_,_,_,rfl⟩
   have hl2:=IR hcq
   refine cI fun kms2 ka2 kc2 hkq=>?_
   refine A7 fun _ K41=>Cx (B0:= []) (σ:=Nat) (fun b12=> [(12,.pointer (some ⟨b12,0,none⟩))]) (fun b12=> [cl b12 47 (CP (CS a.r.ix 200 nilB 5#32 s1.tick))]) (fun b12=>True) [2,3,4,5,6,7,8,9,10,11,13,14,15,16,34,35,36,37,38,39,40,41,42,43,44,45,46,47,48,49,50,51,52,53,54,55,56,57,58,59,60,61,62,63,64,65,66,67,68,69,70,71,72,73,74,75,76,77,78,79,80,91,92,93,94,95,96,97,98,99,100,101,102,103,104,105,106,107,108,109,110,111,112,113,114,115,116,117,118] Cw D8 ?_ ?_
   ·intro K42
    refine BC CE [cl b2 29 [.pointer (some ⟨b,0,none⟩),.pointer (some ⟨p,0,none⟩)],cl b3 49 (Cj a),cl p 24 [.int .i64 room,.int .i64 s1.tick,sl ka2 kms2.length kc2]] (fun i=>([2,2,2,2,2,2,2,2,2,2,1,1]:List Nat).getD i 0) ?_
    refine jP 0 I (A1 I Eb) I hp<|jP 1 I (A1 I CU) I hp<|jT 2 I (AI (vs:=a.r.ix.l.flatMap (eU .u8)) I Cv (hl:=by rw [Ee];omega) (hi:=J7 a)) I hp AQ ?_
    refine jP 3 I (A1 I Ev) I hp<|jT 4 I (A6 I JJ (v:=.pointer (some ⟨p,0,none⟩))) I hp AQ<|jP 5 I (A9 I) I hp<|jP 6 I (A1 I Di) I hp<|jT 7 I (A6 I BF (v:=.int .i64 s1.tick)) I hp AQ<|jP 8 I (AL (v:=.agg ([.int .u32 5,.int .i64 s1.tick]:List Value).toArray) (Ah Mj I) I) I hp<|jP 9 I (AL (v:=.agg (CP (CS a.r.ix 200 nilB 5#32 s1.tick)).toArray) (Ah Wa I (hf:=QG _ _)) I) I hp ?_
    refine jO 10<|B7 I (AZ Yx) I I I I ?_
    rintro _ _ ⟨b12,rfl,rfl⟩
    refine⟨(fun _=>Bh),?_⟩
    refine jO 11<|Cg I (AV (ys:=CP (CS a.r.ix 200 nilB 5#32 s1.tick)) I I Z4 (h1:=by simpa [Value.cells] using encRq.one (CS a.r.ix 200 nilB 5#32 s1.tick)) (hv:=by simpa [Value.cells] using encRq.len (CS a.r.ix 200 nilB 5#32 s1.tick)) (hr:=by simp [Value.cells])) I I I ?_
    rintro _ _ rfl
    refine⟨(fun _=>Bh),?_⟩
    refine jD<|Az (K42 (b12) (trivial))
   rintro b12 -
   simp only [List.cons_append,List.nil_append]
   refine A5 K41<|A7 fun _ K43=>Cx (B0:= [Eu 90 102 5 b room s1]) (σ:=Unit) (fun _u=> [(14,.int .i64 er)]) (fun _u=> [Eu 90 102 5 b room s2]) (fun _u=>True) [2,3,4,5,6,7,8,9,10,11,12,15,16,34,35,36,37,38,39,40,41,42,43,44,45,46,47,48,49,50,51,52,53,54,55,56,57,58,59,60,61,62,63,64,65,66,67,68,69,70,71,72,73,74,75,76,77,78,79,80,81,82,83,84,85,86,87,88,89,90,103,104,105,106,107,108,109,110,111,112,113,114,115,116,117,118] Cw D8 ?_ ?_
   ·intro K44
    refine BC CE [cl b2 29 [.pointer (some ⟨b,0,none⟩),.pointer (some ⟨p,0,none⟩)],cl b12 47 (CP (CS a.r.ix 200 nilB 5#32 s1.tick)),cl p 24 [.int .i64 room,.int .i64 s1.tick,sl ka2 kms2.length kc2]] (fun i=>([2,2,2,2,2,2,2,2,1,2,2,2,1,1,2]:List Nat).getD i 0) ?_
    refine jP 0 I (A1 I Dh) I hp<|jT 1 I (A6 I GN (v:=.pointer (some ⟨b,0,none⟩))) I hp AQ<|jP 2 I (A1 I Ev) I hp<|jT 3 I (A6 I JJ (v:=.pointer (some ⟨p,0,none⟩))) I hp AQ<|jP 4 I (A9 I) I hp<|jP 5 I (A1 I Di) I hp<|jT 6 I (A6 I BF (v:=.int .i64 s1.tick)) I hp AQ<|jT 7 I (AI (vs:=CP (CS a.r.ix 200 nilB 5#32 s1.tick)) I EG (hl:=by rw [B5];omega) (hi:=CM _)) I hp AQ ?_
    refine Gp (rs:= [8,12]) (by kernel_rfl) I ?_
    refine Dc ?_ (Dc ?_ (by intro _ h;cases h))
    ·skip
     refine B7 I (AE Y7 I (hs:=PT (b:=b) (room:=room) (t:=s1.tick) (s:=s1) (s2:=s2) (r:=(CS a.r.ix 200 nilB 5#32 s1.tick)) (Y:=X) (rp:=rp) (er:=er) hw1 F3 (by omega) hcq)) I I I I ?_
     rintro _ _ ⟨gr,rfl,hA⟩
     simp only [ca] at hA
     subst hA
     refine⟨(fun _=>Bh),?_⟩
     refine jM 9 I I I hp<|jP 10 I (BE I) I hp<|jP 11 I (BN I) I hp<|jO 12<|B7 I (AZ Ce) I I I I ?_
     rintro _ _ ⟨b13,rfl,rfl⟩
     refine⟨(fun _=>Bh),?_⟩
     refine jO 13<|Cg I (AV (ys:= [.int .u8 rp.kind,gr.nv,gr.bv]) I I Ba (h1:=by simp [RpG.v,BD,Value.cells,Value.oneCell',gr.hn.val,gr.hb.val]) (hr:=I)) I I I ?_
     rintro _ _ rfl
     refine⟨(fun _=>Bh),?_⟩
     refine jP 14 I (Ag I) I hp<|jD<|Az (K44 (()) (trivial))
    skip
    refine B7 I (AZ Ce) I I I I ?_
    rintro _ _ ⟨b13,rfl,rfl⟩
    refine⟨(fun _=>Bh),?_⟩
    refine jO 8<|B7 I (AE Y7 I (hs:=PT (b:=b) (room:=room) (t:=s1.tick) (s:=s1) (s2:=s2) (r:=(CS a.r.ix 200 nilB 5#32 s1.tick)) (Y:=X) (rp:=rp) (er:=er) hw1 F3 (by omega) hcq)) I I I I ?_
    rintro _ _ ⟨gr,rfl,hA⟩
    simp only [ca] at hA
    subst hA
    refine⟨(fun _=>Bh),?_⟩
    refine jM 9 I I I hp<|jP 10 I (BE I) I hp<|jP 11 I (BN I) I hp<|jO 13<|Cg I (AV (ys:= [.int .u8 rp.kind,gr.nv,gr.bv]) I I Ba (h1:=by simp [RpG.v,BD,Value.cells,Value.oneCell',gr.hn.val,gr.hb.val]) (hr:=I)) I I I ?_
    rintro _ _ rfl
    refine⟨(fun _=>Bh),?_⟩
    refine jP 14 I (Ag I) I hp<|jD<|Az (K44 (()) (trivial))
   rintro _u -
   simp only [List.cons_append,List.nil_append]
   refine A5 K43<|A7 fun _ K45=>Cx (B0:= [cl p 24 [.int .i64 room,.int .i64 s1.tick,sl ka2 kms2.length kc2],Aa ka2 kc2 19 83 BH kms2,star (CQ 5 44) kms2]) (σ:=Unit) (fun _u=> [(16,.int .i64 er)]) (fun _u=> [Du 24 83 5 44 p room s2]) (fun _u=>True) [2,3,4,5,6,7,8,9,10,11,12,13,14,34,35,36,37,38,39,40,41,42,43,44,45,46,47,48,49,50,51,52,53,54,55,56,57,58,59,60,61,62,63,64,65,66,67,68,69,70,71,72,73,74,75,76,77,78,79,80,81,82,83,84,85,86,87,88,89,90,91,92,93,94,95,96,97,98,99,100,101,102,115,116,117,118] Cw D8 ?_ ?_
   ·intro K46
    refine BC CE [cl b2 29 [.pointer (some ⟨b,0,none⟩),.pointer (some ⟨p,0,none⟩)],cl b12 47 (CP (CS a.r.ix 200 nilB 5#32 s1.tick))] (fun i=>([2,2,2,2,2,2,2,2,1,2,2,2,1,1,2]:List Nat).getD i 0) ?_
    refine jP 0 I (A1 I Ev) I hp<|jT 1 I (A6 I JJ (v:=.pointer (some ⟨p,0,none⟩))) I hp AQ<|jP 2 I (A1 I Ev) I hp<|jT 3 I (A6 I JJ (v:=.pointer (some ⟨p,0,none⟩))) I hp AQ<|jP 4 I (A9 I) I hp<|jP 5 I (A1 I Di) I hp<|jT 7 I (AI (vs:=CP (CS a.r.ix 200 nilB 5#32 s1.tick)) I EG (hl:=by rw [B5];omega) (hi:=CM _)) I hp AQ ?_
    refine Gp (rs:= [6,12]) (by kernel_rfl) I ?_
    refine Dc ?_ (Dc ?_ (by intro _ h;cases h))
    ·skip
     refine I8 I (A6 I BF (v:=.int .i64 s1.tick)) I I I (fun h=>by cases h) ?_
     refine Gp (rs:= [8,12]) (by kernel_rfl) I ?_
     refine Dc ?_ (Dc ?_ (by intro _ h;cases h))
     ·skip
      refine B7 I (AE So I (hs:=L9 (p:=p) (room:=room) (t:=s1.tick) (s:=s1) (s2:=s2) (r:=(CS a.r.ix 200 nilB 5#32 s1.tick)) (Y:=X) (rp:=rp) (er:=er) (kms:=kms2) (ka:=ka2) (kc:=kc2) hkq hw1 F3 (by omega) hcq)) I I I I ?_
      rintro _ _ ⟨gd,rfl,hA⟩
      simp only [ca] at hA
      subst hA
      refine⟨(fun _=>Bh),?_⟩
      refine jM 9 I I I hp<|jP 10 I (BE I) I hp<|jP 11 I (BN I) I hp<|jO 12<|B7 I (AZ Ce) I I I I ?_
      rintro _ _ ⟨b15,rfl,rfl⟩
      refine⟨(fun _=>Bh),?_⟩
      refine jO 13<|Cg I (AV (ys:= [.int .u8 rp.kind,gd.nv,gd.bv]) I I Ba (h1:=by simp [RpG.v,BD,Value.cells,Value.oneCell',gd.hn.val,gd.hb.val]) (hr:=I)) I I I ?_
      rintro _ _ rfl
      refine⟨(fun _=>Bh),?_⟩
      refine jP 14 I (Ag I) I hp<|jD<|Az (K46 (()) (trivial))
     skip
     refine B7 I (AZ Ce) I I I I ?_
     rintro _ _ ⟨b15,rfl,rfl⟩
     refine⟨(fun _=>Bh),?_⟩
     refine jO 8<|B7 I (AE So I (hs:=L9 (p:=p) (room:=room) (t:=s1.tick) (s:=s1) (s2:=s2) (r:=(CS a.r.ix 200 nilB 5#32 s1.tick)) (Y:=X) (rp:=rp) (er:=er) (kms:=kms2) (ka:=ka2) (kc:=kc2) hkq hw1 F3 (by omega) hcq)) I I I I ?_
     rintro _ _ ⟨gd,rfl,hA⟩
     simp only [ca] at hA
     subst hA
     refine⟨(fun _=>Bh),?_⟩
     refine jM 9 I I I hp<|jP 10 I (BE I) I hp<|jP 11 I (BN I) I hp<|jO 13<|Cg I (AV (ys:= [.int .u8 rp.kind,gd.nv,gd.bv]) I I Ba (h1:=by simp [RpG.v,BD,Value.cells,Value.oneCell',gd.hn.val,gd.hb.val]) (hr:=I)) I I I ?_
     rintro _ _ rfl
     refine⟨(fun _=>Bh),?_⟩
     refine jP 14 I (Ag I) I hp<|jD<|Az (K46 (()) (trivial))
    skip
    refine B7 I (AZ Ce) I I I I ?_
    rintro _ _ ⟨b15,rfl,rfl⟩
    refine⟨(fun _=>Bh),?_⟩
    refine jO 6<|I8 I (A6 I BF (v:=.int .i64 s1.tick)) I I I (fun h=>by cases h) ?_
    refine jO 8<|B7 I (AE So I (hs:=L9 (p:=p) (room:=room) (t:=s1.tick) (s:=s1) (s2:=s2) (r:=(CS a.r.ix 200 nilB 5#32 s1.tick)) (Y:=X) (rp:=rp) (er:=er) (kms:=kms2) (ka:=ka2) (kc:=kc2) hkq hw1 F3 (by omega) hcq)) I I I I ?_
    rintro _ _ ⟨gd,rfl,hA⟩
    simp only [ca] at hA
    subst hA
    refine⟨(fun _=>Bh),?_⟩
    refine jM 9 I I I hp<|jP 10 I (BE I) I hp<|jP 11 I (BN I) I hp<|jO 13<|Cg I (AV (ys:= [.int .u8 rp.kind,gd.nv,gd.bv]) I I Ba (h1:=by simp [RpG.v,BD,Value.cells,Value.oneCell',gd.hn.val,gd.hb.val]) (hr:=I)) I I I ?_
    rintro _ _ rfl
    refine⟨(fun _=>Bh),?_⟩
    refine jP 14 I (Ag I) I hp<|jD<|Az (K46 (()) (trivial))
   rintro _u -
   simp only [List.cons_append,List.nil_append]
   refine A5 K45<|A4 fun _ K47=>wM I I<|wM I I<|A2 (AL (v:=.bool false) (Dy I I) (by simp)) I<|A3 K47<|AM I<|AA<|A5 K11<|A7 fun _ K48=>A4 fun _ K49=>A2 (A6 I BF (v:=.int .i64 ((r:Nat):Int))) I<|A3 K49<|AD<|AB (AZ UA) I I I ?_
   rintro _ _ ⟨b8,rfl,rfl⟩
   refine AX (Ar I I Fw) I I ?_
   rintro _ _ rfl
   refine AW<|A5 K48<|AD<|A2 (A6 I BF (v:=.int .i64 ((r:Nat):Int))) I<|A2 (AN (j:=1) I I) I<|AX (Ar I I Fw) I I ?_
   rintro _ _ rfl
   refine AW<|Pq (D:=Drf_0) ?_
   refine Az (K8 ⟨r+1,Drf_0::Ds,b8,s2⟩ (⟨by (try dsimp only);omega,hw1.call_eq hcq,by(try dsimp only);have:=hs2 (by omega);omega,fun q=>absurd q (by (try dsimp only);omega)⟩) (by (try dsimp only);omega))
  try simp only [dz] at hc5
  exfalso
  first|omega|(simp_all;done)
 try simp only [dz] at hc1
 refine Aj<|A5 K6<|A4 fun _ K50=>AX (Ar I I sz4) I I ?_
 rintro _ _ rfl
 refine A3 K50<|AK<|hret.goSE ⟨s1,hw1,hs1⟩ ?_ I
 exact gR rfl rfl tk4
end Go.Proofs.YtoakfknnaiapiaaGreat
namespace Go.Proofs.YtoakfknnaiapiaaGreat
open Go.RowKit Go.SL Go.ShM Go.SvM
set_option maxHeartbeats 1000000
set_option maxRecDepth 20000
set_option linter.all false
theorem cf28:DF Tryz.prog 28=true:=by kernel_rfl
theorem ak{kb b p:Nat}{room:Int}{s:Sv1}{a:AcQ}{X:Ao}{C:List Value}(hC:(C).length=10)(hq:((C).drop ((Bo a.on 2)*2)).take 2= [.pointer (some ⟨b,0,none⟩),.pointer (some ⟨p,0,none⟩)])(hk:a.kind=3)(hw:Wf room s)(hn:s.l.length<=90000000):Ct Tryz.prog 5 [.pointer (some ⟨kb,0,none⟩),(.agg (Cj a).toArray)] [cl kb 38 C,Eu 90 102 5 b room s,Du 24 83 5 44 p room s,X] (fun g: {s':Sv1 // Wf room s'/\s'.l.length<=s.l.length+1} =>.bool true) (fun g=> [cl kb 38 C,Eu 90 102 5 b room g.1,Du 24 83 5 44 p room g.1,X]):=by
 refine AY (n:=154) Tryz.func5 I I I fun F w0 Q hret hnorm hp=>?_
 change WC _ _ _ _ _ _ _ (_::_::_::_::F)
 have hkp:(Bo a.on 2)<2:=DO (by omega)
 refine A4 fun _ K1=>AB (Ay (xs:=Cj a) I I) I I I ?_
 rintro _ _ ⟨b3,rfl,rfl⟩
 refine wA I I<|A3 K1<|A4 fun _ K2=>A2 (A1 I Hw) I<|A2 (A6 I BF (v:=.int .i64 a.on) (hi:=GV a)) I<|AB (AE Pa I (hs:=GT (x:=a.on) (n:=2) (by omega) (by omega))) I I I ?_
 rintro _ _ ⟨⟨⟩,rfl,hA⟩
 simp only [ca] at hA
 subst hA
 refine wA I I<|A3 K2<|A4 fun _ K3=>wM I I<|wM I I<|A2 (A9 I) I<|A2 (A1 I FR) I<|A2 (Cu (Bo a.on 2) I I Jt F6 I (by omega)) I ?_
 refine A2 (AI (vs:= [.pointer (some ⟨b,0,none⟩),.pointer (some ⟨p,0,none⟩)]) I IB (hl:=by rw [hC];omega) (hi:=by rw [Nat.zero_add];exact hq)) I ?_
 refine AB (AZ JH) I I I ?_
 rintro _ _ ⟨b6,rfl,rfl⟩
 refine AX (AV (ys:= [.pointer (some ⟨b,0,none⟩),.pointer (some ⟨p,0,none⟩)]) I I F6 (h1:=by simp [BD,Value.cells,Value.oneCell']) (hr:=I)) I I ?_
 rintro _ _ rfl
 refine A3 K3<|A7 fun _ K4=>A4 fun _ K5=>A2 (A1 I Dh) I<|A2 (A6 I GN (v:=.pointer (some ⟨b,0,none⟩))) I<|A2 (Fo I I IA) I ?_
 refine A3 K5<|AM I<|AA<|A5 K4<|A7 fun _ K6=>A4 fun _ K7=>A2 (A1 I IY) I<|A2 (AL (v:=.int .i64 3) (A6 I BF (v:=.int .i64 a.kind) (hi:=Ib a)) (by rw [hk])) I ?_
 refine A3 K7<|AG<|A4 fun _ K8=>A2 (Ab (i:=3) (j:=0) I I) I<|wA I I<|A3 K8<|AM I<|A4 fun _ K9=>A2 (Ab (i:=3) (j:=1) I I) I<|wA I I<|A3 K9<|AM I<|A4 fun _ K10=>A2 (Ab (i:=3) (j:=2) I I) I<|wA I I ?_
 refine A3 K10<|AM I<|A4 fun _ K11=>A2 (Ab (i:=3) (j:=3) I I) I<|wA I I<|A3 K11<|Ad I<|A4 fun _ K12=>A2 (AI (vs:= [.pointer (some ⟨b,0,none⟩),.pointer (some ⟨p,0,none⟩)]) I IB) I<|A2 (AI (vs:=Cj a) I cV (hl:=by rw [Ee];omega) (hi:=RF a)) I ?_
 refine AB (AE cf28 I (hs:=Rz (b:=b) (p:=p) (room:=room) (s:=s) (a:=a) (X:=X) hw hn)) I I I ?_
 rintro _ _ ⟨g,rfl,hA⟩
 simp only [ca] at hA
 subst hA
 refine wA I I<|A3 K12<|AK ?_
 exact hret.gf g (BR rfl rfl)
end Go.Proofs.YtoakfknnaiapiaaGreat
namespace Go.Proofs.YtoakfknnaiapiaaGreat
open Go.RowKit Go.SL Go.ShM Go.SvM
set_option maxHeartbeats 1000000
set_option maxRecDepth 20000
set_option linter.all false

theorem YM{kb m n:Nat}{y:YS}{a:AcQ}{X:Ao}(hy:YI m n y){x:SP}(hx:y.q (Bo a.on 2)=some x)(hmn:m+n<=1048580)(hk:a.kind=3):Ct Tryz.prog 5 [.pointer (some ⟨kb,0,none⟩),.agg (Cj a).toArray] [Jo kb y,X] (fun _: {y':YS // YI m (n+1) y'} =>.bool true) (fun g=> [Jo kb g.1,X]):=by
 have hkp:Bo a.on 2<2:=DO (by omega)
 obtain⟨hw,hsz⟩:=hy.w hx
 have hC:=y.cells_len
 have hq:(y.cells.drop (Bo a.on 2*2)).take 2= [.pointer (some ⟨x.b,0,none⟩),.pointer (some ⟨x.p,0,none⟩)]:=by rw [y.at_ hkp,hx];rfl
 refine JB (ρ:= {s':Sv1 // Wf x.room s'/\s'.l.length<=x.s.l.length+1}) (b':=fun g=>x.b) (s':=fun g=>g.1) hkp hx hy ?_ (fun g=>g.2.1) (fun g=>g.2.2)
 simp only [YS.set_cells hkp hx]
 exact by
  rw [HT hq]
  exact ak (X:=X) hC hq hk hw (by omega)

theorem Ph{kb m n:Nat}{y:YS}{a:AcQ}{X:Ao}(hy:YI m n y)(hmn:m+n<=1048580)(hB:Sv [X] a.r.b.v 1 (eU .u8 (w:=8)) a.r.b.l a.r.b.ao a.r.b.cap)(hbl:a.r.b.l.length<=1000000):Ct Tryz.prog 5 [.pointer (some ⟨kb,0,none⟩),.agg (Cj a).toArray] [Jo kb y,X] (fun _: {y':YS // YI m (n+1) y'} =>.bool true) (fun g=> [Jo kb g.1,X]):=by
 cases hx:y.q (Bo a.on 2) with
 |none=>exact YN hy hx
 |some x=>
  by_cases h0:a.kind=0
  ·exact am hy hx hmn h0 hB hbl
  by_cases h1:a.kind=1
  ·by_cases h:a.at_<x.s.tick\/1099511627776<a.at_
   ·exact Pg hy hx hmn h1 h
   ·exact Pf hy hx hmn h1 (by omega) (by omega)
  by_cases h2:a.kind=2
  ·exact Su hy hx hmn h2 hB hbl
  by_cases h3:a.kind=3
  ·exact YM hy hx hmn h3
  by_cases h4:a.kind=4
  ·exact Ss hy hx hmn h4
  by_cases h5:a.kind=5
  ·exact VT hy hx hmn h5
  ·exact VQ hy hx hmn ⟨h0,h1,h2,h3,h4,h5⟩
end Go.Proofs.YtoakfknnaiapiaaGreat
