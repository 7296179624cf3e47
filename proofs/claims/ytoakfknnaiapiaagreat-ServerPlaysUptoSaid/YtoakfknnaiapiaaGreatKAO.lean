/-
  Contracts of functions that the claim reaches, or the logic and the plain laws that they rest on, or the row over them. (Conditions: none beyond the statement.)
-/
import Derived.Test.YtoakfknnaiapiaaGreatKAN
import Derived.Test.YtoakfknnaiapiaaGreatKAD
set_option linter.all false
namespace Go.Proofs.YtoakfknnaiapiaaGreat
open Go.RowKit Go.SL Go.ShM Go.SvM
set_option maxHeartbeats 1000000
set_option maxRecDepth 20000
set_option linter.all false
theorem Ii:DF Tryz.prog 55=true:=by kernel_rfl
theorem dp:DF Tryz.prog 91=true:=by kernel_rfl
theorem XF(ix:Ix)(n:Int)(lv:Value)(h:lv.cells= #[lv]):Er [(0,16),(16,1),(17,1),(18,1)] [(0,aU .u8 ix.l),(1,.int .i64 n),(3,lv)] [.int .u8 0,.int .u8 0,.int .u8 0,.int .u8 0,.int .u8 0,.int .u8 0,.int .u8 0,.int .u8 0,.int .u8 0,.int .u8 0,.int .u8 0,.int .u8 0,.int .u8 0,.int .u8 0,.int .u8 0,.int .u8 0,.int .i64 0,.slice none 0 0,.slice none 0 0]=some (FM ix n (.slice none 0 0) lv):=by
 obtain⟨l,hl⟩:=ix
 obtain⟨a0,a1,a2,a3,a4,a5,a6,a7,a8,a9,a10,a11,a12,a13,a14,a15,rfl⟩:=Qp l hl
 simp only [Er,BD,List.getElem?_cons_zero,List.getElem?_cons_succ,h]
 rfl
theorem N2(ix:Ix)(n:Int)(bv lv v:Value):(FM ix n bv lv).set 17 v=FM ix n v lv:=by
 unfold FM
 rw [List.set_append_right _ _ (by rw [IS];omega),IS];rfl
theorem Mt{α:Type}(A B:List α)(k:α):(A++k::B)[A.length]? =some k:=by rw [List.getElem?_append_right (Nat.le_refl _),Nat.sub_self];rfl
theorem Oz{α:Type}(A B:List α)(k k':α):(A++k::B).set A.length k'=A++k'::B:=by rw [List.set_append_right _ _ (Nat.le_refl _),Nat.sub_self];rfl

theorem Oi{p:Nat}{A B:List KM}{k:KM}{ka:Option Nat}{kc:Nat}{room tick:Int}{r:Rq}{Y:Ao}(hB:Sv [Y] r.b.v 1 (eU .u8 (w:=8)) r.b.l r.b.ao r.b.cap)(hn:(A++k::B).length<=100000000)(hls:k.e.ls.length<=64)(hws:SrtW k.e.ls)(hbl:k.e.b.length<=33554432)(hf:Ed (r.ix,r.num) ((A++k::B).map KM.e)=some A.length)(hb:k.e.b≠r.b.l):Ct Tryz.prog 74 [.pointer (some ⟨p,0,none⟩),.agg (CP r).toArray] [cl p 24 [.int .i64 room,.int .i64 tick,sl ka (A++k::B).length kc],Aa ka kc 19 83 BH (A++k::B),star (CQ 5 44) (A++k::B),Y] (fun _:Unit=>.agg [.int .u8 4,.slice none 0 0,.slice none 0 0].toArray) (fun _=> [cl p 24 [.int .i64 room,.int .i64 tick,sl ka (A++k::B).length kc],Aa ka kc 19 83 BH (A++k::B),star (CQ 5 44) (A++k::B),Y]):=by
 refine AY (n:=132) Tryz.func74 I I I fun F w0 Q hret hnorm hp=>?_
 change WC _ _ _ _ _ _ _ (_::_::_::_::F)
 refine Bu (fun w h=>B1 (a:=ka) (cap:=kc) (e:=19) (T:=83) (f:=BH) (l:=(A++k::B)) Bf h) (fun hkf=>?_)
 have hV:Sv [Aa ka kc 19 83 BH (A++k::B)] (sl ka (A++k::B).length kc) 19 BH (A++k::B) (ka.map fun g=>⟨g,0,none⟩) kc:=BM encKM hkf.1 hkf.2
 have hk:(A++k::B)[A.length]? =some k:=Mt A B k
 refine Bu (fun w h=>Ez (tU:=5) (tL:=44) (kms:=(A++k::B)) Bf h) (fun hkv=>?_)
 have hok:=hkv k (by simp)
 have hAl:A.length<(A++k::B).length:=by rw [List.length_append,List.length_cons];omega
 have hixr:=r.ix.h
 refine A4 fun _ K1=>AB (Ay (xs:=CP r) I I) I I I ?_
 rintro _ _ ⟨b3,rfl,rfl⟩
 refine AB (AZ Ce) I I I ?_
 rintro _ _ ⟨b4,rfl,rfl⟩
 refine A3 K1<|A4 fun _ K2=>wM I I<|A2 (A1 I CU) I<|A2 (AI (vs:=r.ix.l.flatMap (eU .u8)) I Cv (hl:=by rw [B5];omega) (hi:=Ci r)) I ?_
 refine A2 (A1 I Bq) I<|A2 (A6 I BF (v:=.int .i64 r.num) (hi:=D4 r)) I<|AB (AE Ii I (hs:=DX (X:=Aa ka kc 19 83 BH (A++k::B)) (p:=p) (kvs:=(A++k::B).map KM.kv) (room:=room) (tick:=tick) (ix:=r.ix) (num:=r.num) (Et hV) (by rw [List.length_map];exact hn))) I I I ?_
 rintro _ _ ⟨⟨⟩,rfl,hA⟩
 simp only [ca] at hA
 subst hA
 rw [CO,hf,show GA (some A.length)=((A.length:Nat):Int) from rfl]
 refine wA I I<|A3 K2<|A7 fun _ K3=>A4 fun _ K4=>wM I I<|A2 (Bl (j:=0) I I) I ?_
 refine A3 K4<|AH I (fun hc0=>?_) (fun hc0=>?_)
 ·try simp only [dz] at hc0
  refine A4 fun _ K5=>wM I I<|A2 (A9 I) I<|A2 (A1 I BB) I<|A2 (A6 I CL (v:=sl ka (A++k::B).length kc)) I<|wM I I<|A2 (AO A.length I I BV C6 (hA:=hV) (hi:=by omega)) I ?_
  refine A2 (BG (f:=BH) (i:=A.length) (y:=k) I EM (hA:=hV) (hl:=hk)) I ?_
  refine AB (AZ Ey) I I I ?_
  rintro _ _ ⟨b6,rfl,rfl⟩
  refine AX (AV (ys:=BH k) I I C6 (h1:=by simpa [Value.cells] using encKM.one k) (hv:=by simpa [Value.cells] using encKM.len k) (hr:=by simp [Value.cells])) I I ?_
  rintro _ _ rfl
  refine A3 K5<|A7 fun _ K6=>A4 fun _ K7=>A2 (A1 I C4) I<|A2 (A6 I Bg (v:=sl k.ba k.e.b.length k.bc) (hi:=Es k)) I<|A2 (A1 I CG) I<|A2 (A6 I Bg (v:=r.b.v) (hi:=G5 r)) I<|AB (AE dp I (hs:=Ct.un0 (Xs:= [star (CQ 5 44) (A++k::B),Y]) (Me (X:=F7 [star (CQ 5 44) (A++k::B),Y]) (l:=k.e.b) (l':=r.b.l) (hS:=hok.hb.pk Bf) (hS':=hB.pk Bf) (hl:=by omega)))) I I I ?_
  rintro _ _ ⟨⟨⟩,rfl,hA⟩
  simp only [ca] at hA
  subst hA
  rw [show decide (k.e.b=r.b.l)=false from decide_eq_false hb]
  refine A2 (Au I) I<|A3 K7<|Ad I<|A4 fun _ K8=>A2 (AL (v:=.agg ([.int .u8 4,.slice none 0 0,.slice none 0 0]:List Value).toArray) (Ah Bp I) I) I<|AX (AV (ys:= [.int .u8 4,.slice none 0 0,.slice none 0 0]) I I Ba (h1:=by simp [BD,Value.cells,Value.oneCell',sl]) (hr:=I)) I I ?_
  rintro _ _ rfl
  refine A3 K8<|AK ?_
  exact hret.gf () (Fl rfl rfl Bn)
 try simp only [dz] at hc0
 exfalso
 omega

theorem Q7{p:Nat}{A B:List KM}{k:KM}{ka:Option Nat}{kc:Nat}{room tick:Int}{r:Rq}{Y:Ao}(hB:Sv [Y] r.b.v 1 (eU .u8 (w:=8)) r.b.l r.b.ao r.b.cap)(hn:(A++k::B).length<=100000000)(hls:k.e.ls.length<=64)(hws:SrtW k.e.ls)(hbl:k.e.b.length<=33554432)(hf:Ed (r.ix,r.num) ((A++k::B).map KM.e)=some A.length)(hb:k.e.b=r.b.l)(h2:Bi r.who k.e.ls=false/\64<=k.e.ls.length):Ct Tryz.prog 74 [.pointer (some ⟨p,0,none⟩),.agg (CP r).toArray] [cl p 24 [.int .i64 room,.int .i64 tick,sl ka (A++k::B).length kc],Aa ka kc 19 83 BH (A++k::B),star (CQ 5 44) (A++k::B),Y] (fun _:Unit=>.agg [.int .u8 3,.slice none 0 0,.slice none 0 0].toArray) (fun _=> [cl p 24 [.int .i64 room,.int .i64 tick,sl ka (A++k::B).length kc],Aa ka kc 19 83 BH (A++k::B),star (CQ 5 44) (A++k::B),Y]):=by
 refine AY (n:=132) Tryz.func74 I I I fun F w0 Q hret hnorm hp=>?_
 change WC _ _ _ _ _ _ _ (_::_::_::_::F)
 refine Bu (fun w h=>B1 (a:=ka) (cap:=kc) (e:=19) (T:=83) (f:=BH) (l:=(A++k::B)) Bf h) (fun hkf=>?_)
 have hV:Sv [Aa ka kc 19 83 BH (A++k::B)] (sl ka (A++k::B).length kc) 19 BH (A++k::B) (ka.map fun g=>⟨g,0,none⟩) kc:=BM encKM hkf.1 hkf.2
 have hk:(A++k::B)[A.length]? =some k:=Mt A B k
 refine Bu (fun w h=>Ez (tU:=5) (tL:=44) (kms:=(A++k::B)) Bf h) (fun hkv=>?_)
 have hok:=hkv k (by simp)
 have hAl:A.length<(A++k::B).length:=by rw [List.length_append,List.length_cons];omega
 have hixr:=r.ix.h
 refine A4 fun _ K1=>AB (Ay (xs:=CP r) I I) I I I ?_
 rintro _ _ ⟨b3,rfl,rfl⟩
 refine AB (AZ Ce) I I I ?_
 rintro _ _ ⟨b4,rfl,rfl⟩
 refine A3 K1<|A4 fun _ K2=>wM I I<|A2 (A1 I CU) I<|A2 (AI (vs:=r.ix.l.flatMap (eU .u8)) I Cv (hl:=by rw [B5];omega) (hi:=Ci r)) I ?_
 refine A2 (A1 I Bq) I<|A2 (A6 I BF (v:=.int .i64 r.num) (hi:=D4 r)) I<|AB (AE Ii I (hs:=DX (X:=Aa ka kc 19 83 BH (A++k::B)) (p:=p) (kvs:=(A++k::B).map KM.kv) (room:=room) (tick:=tick) (ix:=r.ix) (num:=r.num) (Et hV) (by rw [List.length_map];exact hn))) I I I ?_
 rintro _ _ ⟨⟨⟩,rfl,hA⟩
 simp only [ca] at hA
 subst hA
 rw [CO,hf,show GA (some A.length)=((A.length:Nat):Int) from rfl]
 refine wA I I<|A3 K2<|A7 fun _ K3=>A4 fun _ K4=>wM I I<|A2 (Bl (j:=0) I I) I ?_
 refine A3 K4<|AH I (fun hc0=>?_) (fun hc0=>?_)
 ·try simp only [dz] at hc0
  refine A4 fun _ K5=>wM I I<|A2 (A9 I) I<|A2 (A1 I BB) I<|A2 (A6 I CL (v:=sl ka (A++k::B).length kc)) I<|wM I I<|A2 (AO A.length I I BV C6 (hA:=hV) (hi:=by omega)) I ?_
  refine A2 (BG (f:=BH) (i:=A.length) (y:=k) I EM (hA:=hV) (hl:=hk)) I ?_
  refine AB (AZ Ey) I I I ?_
  rintro _ _ ⟨b6,rfl,rfl⟩
  refine AX (AV (ys:=BH k) I I C6 (h1:=by simpa [Value.cells] using encKM.one k) (hv:=by simpa [Value.cells] using encKM.len k) (hr:=by simp [Value.cells])) I I ?_
  rintro _ _ rfl
  refine A3 K5<|A7 fun _ K6=>A4 fun _ K7=>A2 (A1 I C4) I<|A2 (A6 I Bg (v:=sl k.ba k.e.b.length k.bc) (hi:=Es k)) I<|A2 (A1 I CG) I<|A2 (A6 I Bg (v:=r.b.v) (hi:=G5 r)) I<|AB (AE dp I (hs:=Ct.un0 (Xs:= [star (CQ 5 44) (A++k::B),Y]) (Me (X:=F7 [star (CQ 5 44) (A++k::B),Y]) (l:=k.e.b) (l':=r.b.l) (hS:=hok.hb.pk Bf) (hS':=hB.pk Bf) (hl:=by omega)))) I I I ?_
  rintro _ _ ⟨⟨⟩,rfl,hA⟩
  simp only [ca] at hA
  subst hA
  rw [show decide (k.e.b=r.b.l)=true from decide_eq_true hb]
  refine A2 (Au I) I<|A3 K7<|AM I<|AA<|A5 K6<|A7 fun _ K8=>A4 fun _ K9=>A2 (AI (vs:=BH k) I EM (hl:=by rw [Db];omega) (hi:=EK _)) I ?_
  refine A2 (A1 I BS) I<|A2 (A1 I Cf) I<|A2 (A6 I BX (v:=.int .u32 ((r.who.toNat:Nat):Int)) (hi:=Fu r)) I<|AB (AE aO I (hs:=J6 (X:=star (CQ 5 44) (A++k::B)) (k:=k.kv) (w:=r.who) hok.hl (by show k.e.ls.length<=_;omega))) I I I ?_
  rintro _ _ ⟨⟨⟩,rfl,hA⟩
  simp only [ca] at hA
  subst hA
  rw [show k.kv.ls.l=k.e.ls from rfl]
  refine A2 (AL (v:=.bool (decide (Gm r.who k.e.ls=none))) (Bt (j:=0) I I) (congrArg Value.bool (decide_eq_decide.2 KN))) I<|wM I I<|Ae 39 I (fun hg10=>?_) (fun hg10=>?_)
  ·try simp only [dz] at hg10
   refine A2 (A1 I Ca) I<|A2 (A6 I EP (v:=sl k.la k.e.ls.length k.lc) (hi:=GF k)) I<|A2 (BA I I Bw) I<|A2 (Ab (j:=64) I I) I<|A2 (AC I I) I<|A3 K9<|AH I (fun hc2=>?_) (fun hc2=>?_)
   ·try simp only [dz] at hc2
    refine A4 fun _ K11=>A2 (AL (v:=.agg ([.int .u8 3,.slice none 0 0,.slice none 0 0]:List Value).toArray) (Ah Bp I) I) I<|AX (AV (ys:= [.int .u8 3,.slice none 0 0,.slice none 0 0]) I I Ba (h1:=by simp [BD,Value.cells,Value.oneCell',sl]) (hr:=I)) I I ?_
    rintro _ _ rfl
    refine A3 K11<|AK ?_
    exact hret.gf () (Fl rfl rfl Bn)
   try simp only [dz] at hc2
   exfalso
   have q1:=Do.1 h2.1
   first|omega|(simp_all;done)|(simp_all;omega)
  try simp only [dz] at hg10
  refine wK I<|wK I<|wK I<|wK I<|A2 (A8 I I) I<|A3 K9<|AM I ?_
  exfalso
  have q1:=Do.1 h2.1
  first|omega|(simp_all;done)|(simp_all;omega)
 try simp only [dz] at hc0
 exfalso
 omega

theorem Q8{p:Nat}{A B:List KM}{k:KM}{ka:Option Nat}{kc:Nat}{room tick:Int}{r:Rq}{Y:Ao}(hB:Sv [Y] r.b.v 1 (eU .u8 (w:=8)) r.b.l r.b.ao r.b.cap)(hn:(A++k::B).length<=100000000)(hls:k.e.ls.length<=64)(hws:SrtW k.e.ls)(hbl:k.e.b.length<=33554432)(hf:Ed (r.ix,r.num) ((A++k::B).map KM.e)=some A.length)(hb:k.e.b=r.b.l)(h2: ¬(Bi r.who k.e.ls=false/\64<=k.e.ls.length)):Ct Tryz.prog 74 [.pointer (some ⟨p,0,none⟩),.agg (CP r).toArray] [cl p 24 [.int .i64 room,.int .i64 tick,sl ka (A++k::B).length kc],Aa ka kc 19 83 BH (A++k::B),star (CQ 5 44) (A++k::B),Y] (fun g:Option Nat × Option Nat × Nat=>.agg [.int .u8 2,.slice none 0 0,.slice none 0 0].toArray) (fun g=> [cl p 24 [.int .i64 room,.int .i64 tick,sl g.1 (A++(k.put (Bc r.who r.un k.e.ls) g.2.1 g.2.2)::B).length kc],Aa g.1 kc 19 83 BH (A++(k.put (Bc r.who r.un k.e.ls) g.2.1 g.2.2)::B),star (CQ 5 44) (A++(k.put (Bc r.who r.un k.e.ls) g.2.1 g.2.2)::B),Y]):=by
 refine AY (n:=132) Tryz.func74 I I I fun F w0 Q hret hnorm hp=>?_
 change WC _ _ _ _ _ _ _ (_::_::_::_::F)
 refine Bu (fun w h=>B1 (a:=ka) (cap:=kc) (e:=19) (T:=83) (f:=BH) (l:=(A++k::B)) Bf h) (fun hkf=>?_)
 have hV:Sv [Aa ka kc 19 83 BH (A++k::B)] (sl ka (A++k::B).length kc) 19 BH (A++k::B) (ka.map fun g=>⟨g,0,none⟩) kc:=BM encKM hkf.1 hkf.2
 have hk:(A++k::B)[A.length]? =some k:=Mt A B k
 refine Bu (fun w h=>Ez (tU:=5) (tL:=44) (kms:=(A++k::B)) Bf h) (fun hkv=>?_)
 have hok:=hkv k (by simp)
 have hAl:A.length<(A++k::B).length:=by rw [List.length_append,List.length_cons];omega
 have hixr:=r.ix.h
 refine A4 fun _ K1=>AB (Ay (xs:=CP r) I I) I I I ?_
 rintro _ _ ⟨b3,rfl,rfl⟩
 refine AB (AZ Ce) I I I ?_
 rintro _ _ ⟨b4,rfl,rfl⟩
 refine A3 K1<|A4 fun _ K2=>wM I I<|A2 (A1 I CU) I<|A2 (AI (vs:=r.ix.l.flatMap (eU .u8)) I Cv (hl:=by rw [B5];omega) (hi:=Ci r)) I ?_
 refine A2 (A1 I Bq) I<|A2 (A6 I BF (v:=.int .i64 r.num) (hi:=D4 r)) I<|AB (AE Ii I (hs:=DX (X:=Aa ka kc 19 83 BH (A++k::B)) (p:=p) (kvs:=(A++k::B).map KM.kv) (room:=room) (tick:=tick) (ix:=r.ix) (num:=r.num) (Et hV) (by rw [List.length_map];exact hn))) I I I ?_
 rintro _ _ ⟨⟨⟩,rfl,hA⟩
 simp only [ca] at hA
 subst hA
 rw [CO,hf,show GA (some A.length)=((A.length:Nat):Int) from rfl]
 refine wA I I<|A3 K2<|A7 fun _ K3=>A4 fun _ K4=>wM I I<|A2 (Bl (j:=0) I I) I ?_
 refine A3 K4<|AH I (fun hc0=>?_) (fun hc0=>?_)
 ·try simp only [dz] at hc0
  refine A4 fun _ K5=>wM I I<|A2 (A9 I) I<|A2 (A1 I BB) I<|A2 (A6 I CL (v:=sl ka (A++k::B).length kc)) I<|wM I I<|A2 (AO A.length I I BV C6 (hA:=hV) (hi:=by omega)) I ?_
  refine A2 (BG (f:=BH) (i:=A.length) (y:=k) I EM (hA:=hV) (hl:=hk)) I ?_
  refine AB (AZ Ey) I I I ?_
  rintro _ _ ⟨b6,rfl,rfl⟩
  refine AX (AV (ys:=BH k) I I C6 (h1:=by simpa [Value.cells] using encKM.one k) (hv:=by simpa [Value.cells] using encKM.len k) (hr:=by simp [Value.cells])) I I ?_
  rintro _ _ rfl
  refine A3 K5<|A7 fun _ K6=>A4 fun _ K7=>A2 (A1 I C4) I<|A2 (A6 I Bg (v:=sl k.ba k.e.b.length k.bc) (hi:=Es k)) I<|A2 (A1 I CG) I<|A2 (A6 I Bg (v:=r.b.v) (hi:=G5 r)) I<|AB (AE dp I (hs:=Ct.un0 (Xs:= [star (CQ 5 44) (A++k::B),Y]) (Me (X:=F7 [star (CQ 5 44) (A++k::B),Y]) (l:=k.e.b) (l':=r.b.l) (hS:=hok.hb.pk Bf) (hS':=hB.pk Bf) (hl:=by omega)))) I I I ?_
  rintro _ _ ⟨⟨⟩,rfl,hA⟩
  simp only [ca] at hA
  subst hA
  rw [show decide (k.e.b=r.b.l)=true from decide_eq_true hb]
  refine A2 (Au I) I<|A3 K7<|AM I<|AA<|A5 K6<|A7 fun _ K8=>A4 fun _ K9=>A2 (AI (vs:=BH k) I EM (hl:=by rw [Db];omega) (hi:=EK _)) I ?_
  refine A2 (A1 I BS) I<|A2 (A1 I Cf) I<|A2 (A6 I BX (v:=.int .u32 ((r.who.toNat:Nat):Int)) (hi:=Fu r)) I<|AB (AE aO I (hs:=J6 (X:=star (CQ 5 44) (A++k::B)) (k:=k.kv) (w:=r.who) hok.hl (by show k.e.ls.length<=_;omega))) I I I ?_
  rintro _ _ ⟨⟨⟩,rfl,hA⟩
  simp only [ca] at hA
  subst hA
  rw [show k.kv.ls.l=k.e.ls from rfl]
  refine A2 (AL (v:=.bool (decide (Gm r.who k.e.ls=none))) (Bt (j:=0) I I) (congrArg Value.bool (decide_eq_decide.2 KN))) I<|wM I I<|Ae 39 I (fun hg10=>?_) (fun hg10=>?_)
  ·try simp only [dz] at hg10
   refine A2 (A1 I Ca) I<|A2 (A6 I EP (v:=sl k.la k.e.ls.length k.lc) (hi:=GF k)) I<|A2 (BA I I Bw) I<|A2 (Ab (j:=64) I I) I<|A2 (AC I I) I<|A3 K9<|AH I (fun hc2=>?_) (fun hc2=>?_)
   ·try simp only [dz] at hc2
    exact absurd ⟨Do.2 (by first|assumption|simp_all),by first|omega|(simp_all;omega)⟩ h2
   try simp only [dz] at hc2
   refine Cd (a:=ka) Bf (by omega) (fun gb hgb hcp=>?_)
   subst hgb
   refine AA<|A5 K8<|A7 fun _ K11=>BC CE [cl p 24 [.int .i64 room,.int .i64 tick,sl (some gb) (A++k::B).length kc],cl b6 83 (BH k),cl b3 47 (CP r)] (fun i=>([2,2,2,2,2,2,2,2,2,1,2,2,0]:List Nat).getD i 0) ?_
   refine jM 0 I I I hp<|jP 1 I (A9 I) I hp<|jP 2 I (A1 I BB) I hp<|jT 3 I (A6 I CL (v:=sl (some gb) (A++k::B).length kc)) I hp AQ<|jM 4 I I I hp<|jP 5 I (A1 I Ca) I hp<|jT 6 I (A6 I EP (v:=sl k.la k.e.ls.length k.lc) (hi:=GF k)) I hp AQ<|jP 7 I (A1 I BS) I hp<|jT 8 I (AI (vs:= [.int .u32 (r.who.toNat:Int),.int .i64 r.un]) I EE (hl:=by rw [B5];omega) (hi:=Jm r)) I hp AQ ?_
   refine jO 9<|B7 I (AE dm I (hs:=Mz (X:=star (CQ 5 44) (A++k::B)) (l:=k.e.ls) (wh:=r.who) (uu:=r.un) hok.hl hws (by omega))) I I I I ?_
   rintro _ _ ⟨⟨a55,c55⟩,rfl,hA⟩
   simp only [ca] at hA
   subst hA
   refine⟨(fun _=>Bh),?_⟩
   refine jP 10 I (AT A.length I I BV C6 (hj:=by omega)) I hp ?_
   refine jP 11 I (A1 I Ca) I hp<|jO 12<|EN I (Aq (k.put (Bc r.who r.un k.e.ls) a55 c55) I I IC (i:=A.length) (j:=18) (hl:=hk) (hu:=KW k _ _ _)) I ?_
   rintro _ _ rfl
   rw [Oz]
   refine jD<|A5 K11<|A4 fun _ K12=>OT 5 44 A k B ?_
   refine Ik 5 44 A k B (Bc r.who r.un k.e.ls) a55 c55 ?_
   rw [show (A++k::B).length=(A++(k.put (Bc r.who r.un k.e.ls) a55 c55)::B).length from by rw [List.length_append,List.length_append];rfl]
   refine A2 (AL (v:=.agg ([.int .u8 2,.slice none 0 0,.slice none 0 0]:List Value).toArray) (Ah Bp I) I) I<|AX (AV (ys:= [.int .u8 2,.slice none 0 0,.slice none 0 0]) I I Ba (h1:=by simp [BD,Value.cells,Value.oneCell',sl]) (hr:=I)) I I ?_
   rintro _ _ rfl
   refine A3 K12<|AK ?_
   exact hret.gf (some gb,a55,c55) (Fl rfl rfl Bn)
  try simp only [dz] at hg10
  refine wK I<|wK I<|wK I<|wK I<|A2 (A8 I I) I<|A3 K9<|AM I<|Cd (a:=ka) Bf (by omega) (fun gb hgb hcp=>?_)
  subst hgb
  refine AA<|A5 K8<|A7 fun _ K13=>BC CE [cl p 24 [.int .i64 room,.int .i64 tick,sl (some gb) (A++k::B).length kc],cl b6 83 (BH k),cl b3 47 (CP r)] (fun i=>([2,2,2,2,2,2,2,2,2,1,2,2,0]:List Nat).getD i 0) ?_
  refine jM 0 I I I hp<|jP 1 I (A9 I) I hp<|jP 2 I (A1 I BB) I hp<|jT 3 I (A6 I CL (v:=sl (some gb) (A++k::B).length kc)) I hp AQ<|jM 4 I I I hp<|jP 5 I (A1 I Ca) I hp<|jT 6 I (A6 I EP (v:=sl k.la k.e.ls.length k.lc) (hi:=GF k)) I hp AQ<|jP 7 I (A1 I BS) I hp<|jT 8 I (AI (vs:= [.int .u32 (r.who.toNat:Int),.int .i64 r.un]) I EE (hl:=by rw [B5];omega) (hi:=Jm r)) I hp AQ ?_
  refine jO 9<|B7 I (AE dm I (hs:=Mz (X:=star (CQ 5 44) (A++k::B)) (l:=k.e.ls) (wh:=r.who) (uu:=r.un) hok.hl hws (by omega))) I I I I ?_
  rintro _ _ ⟨⟨a55,c55⟩,rfl,hA⟩
  simp only [ca] at hA
  subst hA
  refine⟨(fun _=>Bh),?_⟩
  refine jP 10 I (AT A.length I I BV C6 (hj:=by omega)) I hp ?_
  refine jP 11 I (A1 I Ca) I hp<|jO 12<|EN I (Aq (k.put (Bc r.who r.un k.e.ls) a55 c55) I I IC (i:=A.length) (j:=18) (hl:=hk) (hu:=KW k _ _ _)) I ?_
  rintro _ _ rfl
  rw [Oz]
  refine jD<|A5 K13<|A4 fun _ K14=>OT 5 44 A k B ?_
  refine Ik 5 44 A k B (Bc r.who r.un k.e.ls) a55 c55 ?_
  rw [show (A++k::B).length=(A++(k.put (Bc r.who r.un k.e.ls) a55 c55)::B).length from by rw [List.length_append,List.length_append];rfl]
  refine A2 (AL (v:=.agg ([.int .u8 2,.slice none 0 0,.slice none 0 0]:List Value).toArray) (Ah Bp I) I) I<|AX (AV (ys:= [.int .u8 2,.slice none 0 0,.slice none 0 0]) I I Ba (h1:=by simp [BD,Value.cells,Value.oneCell',sl]) (hr:=I)) I I ?_
  rintro _ _ rfl
  refine A3 K14<|AK ?_
  exact hret.gf (some gb,a55,c55) (Fl rfl rfl Bn)
 try simp only [dz] at hc0
 exfalso
 omega
end Go.Proofs.YtoakfknnaiapiaaGreat
namespace Go.Proofs.YtoakfknnaiapiaaGreat
open Go.RowKit Go.SL Go.ShM Go.SvM
set_option maxHeartbeats 1000000
set_option maxRecDepth 20000
set_option linter.all false

theorem Q9{p:Nat}{kms:List KM}{ka:Option Nat}{kc:Nat}{room tick:Int}{r:Rq}{Y:Ao}(hB:Sv [Y] r.b.v 1 (eU .u8 (w:=8)) r.b.l r.b.ao r.b.cap)(hn:kms.length<=100000000)(hbn:r.b.l.length<=33554432)(hu:C0 (kms.map KM.e)<=1073741824)(hf:Ed (r.ix,r.num) (kms.map KM.e)=none)(h:room<((C0 (kms.map KM.e)+r.b.l.length:Nat):Int)):Ct Tryz.prog 74 [.pointer (some ⟨p,0,none⟩),.agg (CP r).toArray] [cl p 24 [.int .i64 room,.int .i64 tick,sl ka kms.length kc],Aa ka kc 19 83 BH kms,star (CQ 5 44) kms,Y] (fun _:Unit=>.agg [.int .u8 3,.slice none 0 0,.slice none 0 0].toArray) (fun _=> [cl p 24 [.int .i64 room,.int .i64 tick,sl ka kms.length kc],Aa ka kc 19 83 BH kms,star (CQ 5 44) kms,Y]):=by
 refine AY (n:=132) Tryz.func74 I I I fun F w0 Q hret hnorm hp=>?_
 change WC _ _ _ _ _ _ _ (_::_::_::_::F)
 refine Bu (fun w h=>B1 (a:=ka) (cap:=kc) (e:=19) (T:=83) (f:=BH) (l:=kms) Bf h) (fun hkf=>?_)
 have hV:Sv [Aa ka kc 19 83 BH kms] (sl ka kms.length kc) 19 BH kms (ka.map fun g=>⟨g,0,none⟩) kc:=BM encKM hkf.1 hkf.2
 have hixr:=r.ix.h
 refine A4 fun _ K1=>AB (Ay (xs:=CP r) I I) I I I ?_
 rintro _ _ ⟨b3,rfl,rfl⟩
 refine AB (AZ Ce) I I I ?_
 rintro _ _ ⟨b4,rfl,rfl⟩
 refine A3 K1<|A4 fun _ K2=>wM I I<|A2 (A1 I CU) I<|A2 (AI (vs:=r.ix.l.flatMap (eU .u8)) I Cv (hl:=by rw [B5];omega) (hi:=Ci r)) I ?_
 refine A2 (A1 I Bq) I<|A2 (A6 I BF (v:=.int .i64 r.num) (hi:=D4 r)) I<|AB (AE Ii I (hs:=DX (X:=Aa ka kc 19 83 BH kms) (p:=p) (kvs:=kms.map KM.kv) (room:=room) (tick:=tick) (ix:=r.ix) (num:=r.num) (Et hV) (by rw [List.length_map];exact hn))) I I I ?_
 rintro _ _ ⟨⟨⟩,rfl,hA⟩
 simp only [ca] at hA
 subst hA
 rw [CO,hf,show GA none= -1 from rfl]
 refine wA I I<|A3 K2<|A7 fun _ K3=>A4 fun _ K4=>wM I I<|A2 (AL (v:=.bool false) (Dm (i:= -1) (j:=0) I I) (congrArg Value.bool (by decide))) I<|A3 K4<|AM I<|AA<|A5 K3<|A7 fun _ K5=>A7 fun _ K6=>BC CE [cl p 24 [.int .i64 room,.int .i64 tick,sl ka kms.length kc],Aa ka kc 19 83 BH kms,cl b3 47 (CP r)] (fun i=>([2,1,2,2,2,2,2,2,2,2,2]:List Nat).getD i 0) ?_
 refine jM 0 I I I hp<|jP 2 I (A1 I CG) I hp<|jT 3 I (A6 I Bg (v:=r.b.v) (hi:=G5 r)) I hp AQ<|jP 4 I (AL (v:=.int .i64 ((r.b.l.length:Nat):Int)) (BA I I BQ) I) I hp<|jM 6 I I I hp<|jP 7 I (A9 I) I hp<|jP 8 I (A1 I Dx) I hp<|jT 9 I (A6 I BF) I hp AQ ?_
 refine jO 1<|B7 I (AE Y9 I (hs:=II (X:=Aa ka kc 19 83 BH kms) (p:=p) (kvs:=kms.map KM.kv) (room:=room) (tick:=tick) (Et hV) (by rw [List.length_map];exact hn) (by rw [CO];omega))) I I I I ?_
 rintro _ _ ⟨⟨⟩,rfl,hA⟩
 simp only [ca] at hA
 subst hA
 rw [CO]
 refine⟨(fun _=>Bh),?_⟩
 refine jP 5 I (AN I I) I hp<|jP 10 I (DI (i:=((C0 (kms.map KM.e)+r.b.l.length:Nat):Int)) I I) I hp ?_
 refine jD<|A5 K6<|AH I (fun hc3=>?_) (fun hc3=>?_)
 ·try simp only [dz] at hc3
  refine A4 fun _ K7=>A2 (AL (v:=.agg ([.int .u8 3,.slice none 0 0,.slice none 0 0]:List Value).toArray) (Ah Bp I) I) I<|AX (AV (ys:= [.int .u8 3,.slice none 0 0,.slice none 0 0]) I I Ba (h1:=by simp [BD,Value.cells,Value.oneCell',sl]) (hr:=I)) I I ?_
  rintro _ _ rfl
  refine A3 K7<|AK ?_
  exact hret.gf () (Fl rfl rfl Bn)
 try simp only [dz] at hc3
 exfalso
 omega

theorem S4{p:Nat}{kms:List KM}{ka:Option Nat}{kc:Nat}{room tick:Int}{r:Rq}{Y:Ao}(hB:Sv [Y] r.b.v 1 (eU .u8 (w:=8)) r.b.l r.b.ao r.b.cap)(hn:kms.length<=100000000)(hbn:r.b.l.length<=33554432)(hu:C0 (kms.map KM.e)<=1073741824)(hf:Ed (r.ix,r.num) (kms.map KM.e)=none)(h: ¬room<((C0 (kms.map KM.e)+r.b.l.length:Nat):Int)):Ct Tryz.prog 74 [.pointer (some ⟨p,0,none⟩),.agg (CP r).toArray] [cl p 24 [.int .i64 room,.int .i64 tick,sl ka kms.length kc],Aa ka kc 19 83 BH kms,star (CQ 5 44) kms,Y] (fun g: {g:List KM × Option Nat × Nat // g.1.map KM.e=IF ⟨r.ix,r.num,r.b.l,[(r.who,r.un)]⟩ (kms.map KM.e)} =>.agg [.int .u8 2,.slice none 0 0,.slice none 0 0].toArray) (fun g=> [cl p 24 [.int .i64 room,.int .i64 tick,sl g.1.2.1 g.1.1.length g.1.2.2],Aa g.1.2.1 g.1.2.2 19 83 BH g.1.1,star (CQ 5 44) g.1.1,Y]):=by
 refine AY (n:=132) Tryz.func74 I I I fun F w0 Q hret hnorm hp=>?_
 change WC _ _ _ _ _ _ _ (_::_::_::_::F)
 refine Bu (fun w h=>B1 (a:=ka) (cap:=kc) (e:=19) (T:=83) (f:=BH) (l:=kms) Bf h) (fun hkf=>?_)
 have hV:Sv [Aa ka kc 19 83 BH kms] (sl ka kms.length kc) 19 BH kms (ka.map fun g=>⟨g,0,none⟩) kc:=BM encKM hkf.1 hkf.2
 have hixr:=r.ix.h
 refine A4 fun _ K1=>AB (Ay (xs:=CP r) I I) I I I ?_
 rintro _ _ ⟨b3,rfl,rfl⟩
 refine AB (AZ Ce) I I I ?_
 rintro _ _ ⟨b4,rfl,rfl⟩
 refine A3 K1<|A4 fun _ K2=>wM I I<|A2 (A1 I CU) I<|A2 (AI (vs:=r.ix.l.flatMap (eU .u8)) I Cv (hl:=by rw [B5];omega) (hi:=Ci r)) I ?_
 refine A2 (A1 I Bq) I<|A2 (A6 I BF (v:=.int .i64 r.num) (hi:=D4 r)) I<|AB (AE Ii I (hs:=DX (X:=Aa ka kc 19 83 BH kms) (p:=p) (kvs:=kms.map KM.kv) (room:=room) (tick:=tick) (ix:=r.ix) (num:=r.num) (Et hV) (by rw [List.length_map];exact hn))) I I I ?_
 rintro _ _ ⟨⟨⟩,rfl,hA⟩
 simp only [ca] at hA
 subst hA
 rw [CO,hf,show GA none= -1 from rfl]
 refine wA I I<|A3 K2<|A7 fun _ K3=>A4 fun _ K4=>wM I I<|A2 (AL (v:=.bool false) (Dm (i:= -1) (j:=0) I I) (congrArg Value.bool (by decide))) I<|A3 K4<|AM I<|AA<|A5 K3<|A7 fun _ K5=>A7 fun _ K6=>BC CE [cl p 24 [.int .i64 room,.int .i64 tick,sl ka kms.length kc],Aa ka kc 19 83 BH kms,cl b3 47 (CP r)] (fun i=>([2,1,2,2,2,2,2,2,2,2,2]:List Nat).getD i 0) ?_
 refine jM 0 I I I hp<|jP 2 I (A1 I CG) I hp<|jT 3 I (A6 I Bg (v:=r.b.v) (hi:=G5 r)) I hp AQ<|jP 4 I (AL (v:=.int .i64 ((r.b.l.length:Nat):Int)) (BA I I BQ) I) I hp<|jM 6 I I I hp<|jP 7 I (A9 I) I hp<|jP 8 I (A1 I Dx) I hp<|jT 9 I (A6 I BF) I hp AQ ?_
 refine jO 1<|B7 I (AE Y9 I (hs:=II (X:=Aa ka kc 19 83 BH kms) (p:=p) (kvs:=kms.map KM.kv) (room:=room) (tick:=tick) (Et hV) (by rw [List.length_map];exact hn) (by rw [CO];omega))) I I I I ?_
 rintro _ _ ⟨⟨⟩,rfl,hA⟩
 simp only [ca] at hA
 subst hA
 rw [CO]
 refine⟨(fun _=>Bh),?_⟩
 refine jP 5 I (AN I I) I hp<|jP 10 I (DI (i:=((C0 (kms.map KM.e)+r.b.l.length:Nat):Int)) I I) I hp ?_
 refine jD<|A5 K6<|AH I (fun hc3=>?_) (fun hc3=>?_)
 ·try simp only [dz] at hc3
  exfalso
  omega
 try simp only [dz] at hc3
 refine AA<|A5 K5<|A4 fun _ K7=>A2 (A1 I CU) I<|A2 (AI (vs:=r.ix.l.flatMap (eU .u8)) I Cv (hl:=by rw [B5];omega) (hi:=Ci r)) I ?_
 refine A2 (A1 I Bq) I<|A2 (A6 I BF (v:=.int .i64 r.num) (hi:=D4 r)) I<|A2 (A1 I BS) I<|A2 (AI (vs:= [.int .u32 (r.who.toNat:Int),.int .i64 r.un]) I EE (hl:=by rw [B5];omega) (hi:=Jm r)) I ?_
 refine AB (Ys (f:=C9) (zs:= [.int .u32 0,.int .i64 0]) (bs:= [.int .u32 0,.int .i64 0]) [(r.who,r.un)] encLs Bw I9 DD I (by kernel_rfl) (by kernel_rfl) (by rfl) (by rfl) (by rfl)) I I I ?_
 rintro _ _ ⟨b77,rfl,rfl⟩
 refine A2 (AL (v:=.agg (FM r.ix r.num (.slice none 0 0) (sl (some b77) 1 1)).toArray) (Ah Mi I (hf:=XF _ _ _ I)) I) I ?_
 refine AB (AZ Ey) I I I ?_
 rintro _ _ ⟨b7,rfl,rfl⟩
 refine AX (AV (ys:=FM r.ix r.num (.slice none 0 0) (sl (some b77) 1 1)) I I C6 (h1:=J4 I I) (hv:=by simpa [Value.cells] using Da _ _ _ _) (hr:=by simp [Value.cells])) I I ?_
 rintro _ _ rfl
 refine A3 K7<|A4 fun _ K8=>A2 (A1 I C4) I<|A2 (A6 I Bg (v:=.slice none 0 0) (hi:=O7 _ _ _ _)) I ?_
 refine A2 (A1 I CG) I<|A2 (A6 I Bg (v:=r.b.v) (hi:=G5 r)) I<|CJ (eU .u8 (w:=8)) 1 5 ?_
 refine AB (E6 (f:=(eU .u8 (w:=8))) (Em .u8) I I BQ BQ Xk (a:=none) (cap:=0) (l:= []) (l2:=r.b.l) (hS:=hB) (hb:=by rw [List.length_nil];omega)) I I I ?_
 rintro _ _ ⟨a83,cap83,rfl,rfl⟩
 rw [List.nil_append,show ([]:List B8).length+r.b.l.length=r.b.l.length from by simp]
 refine A2 (A1 I C4) I<|AX (Ar (ys:=BH (⟨⟨r.ix,r.num,r.b.l,[(r.who,r.un)]⟩,a83,cap83,some b77,1⟩:KM)) I I Gi (hl:=by rw [Nat.blt_eq,Da];omega) (hr:=N2 r.ix r.num (.slice none 0 0) (sl (some b77) 1 1) (sl a83 r.b.l.length cap83))) I I ?_
 rintro _ _ rfl
 refine A3 K8<|A4 fun _ K9=>A2 (Ag (v:=sl none 0 0) I) I<|CJ BH 19 83 ?_
 refine A3 K9<|A4 fun _ K10=>wA rfl rfl<|A3 K10<|A7 fun _ K11=>A4 fun _ K12=>wA rfl rfl<|A3 K12<|AG<|Ak (σ:=Nat × (Option Nat) × Nat) (fun ⟨i,a,c⟩=> [(8,sl a (Ek (⟨⟨r.ix,r.num,r.b.l,[(r.who,r.un)]⟩,a83,cap83,some b77,1⟩:KM) (kms.take i)).length c),(9,.bool (KO (⟨⟨r.ix,r.num,r.b.l,[(r.who,r.un)]⟩,a83,cap83,some b77,1⟩:KM) (kms.take i))),(10,.int .i64 ((i:Nat):Int))]) (fun ⟨i,a,c⟩=> [Aa a c 19 83 BH (Ek (⟨⟨r.ix,r.num,r.b.l,[(r.who,r.un)]⟩,a83,cap83,some b77,1⟩:KM) (kms.take i))]) (fun ⟨i,a,c⟩=>i<=kms.length) (fun ⟨i,a,c⟩=>kms.length -i) ⟨0,none,0⟩ [0,4,7,121,122,123,124,125,126,127,128,129,130,131] Cw (by (try dsimp only);rw [dA];repeat (first|with_reducible exact Gv.nil|(with_reducible apply Gv.cons;· (repeat (first|with_reducible exact Ext.here|with_reducible apply Ext.there))))) ?_ ?_ Sub.refl ?_
 ·exact Nat.zero_le _
 ·(try dsimp only);exact(Wk.cons Ch (Wk.cons Ch (Wk.cons Ch Wk.nil)))
 rintro⟨i,a,c⟩ hi K13 K13
 simp only [List.cons_append,List.nil_append]
 refine A7 fun _ K14=>A4 fun _ K15=>wM I I<|wM I I<|A2 (A9 I) I<|A2 (A1 I BB) I<|A2 (A6 I CL (v:=sl ka kms.length kc)) I<|A2 (Al I I BV (hA:=hV)) I ?_
 refine A2 (An I I) I<|A3 K15<|AH I (fun hc4=>?_) (fun hc4=>?_)
 ·try simp only [dz] at hc4
  obtain⟨k,hk⟩: ∃k,kms[i]? =some k:=⟨_,List.getElem?_eq_getElem (by omega)⟩
  have hsn:=BZ hk
  have hol:=Qq (⟨⟨r.ix,r.num,r.b.l,[(r.who,r.un)]⟩,a83,cap83,some b77,1⟩:KM) (kms.take i)
  rw [List.length_take] at hol
  refine AA<|A5 K14<|A7 fun _ K16=>AG<|A7 fun _ K17=>A7 fun _ K18=>Am CE (fun i=>([2,2,2,2,2,2,2,2,2,2,2,1,2]:List Nat).getD i 0) ?_
  refine jM 0 I I I hp<|jP 1 I (Au I) I hp<|jM 2 I I I hp<|Be 96 I (fun hg19=>?_) (fun hg19=>?_)
  ·try simp only [dz] at hg19
   have hgf:KO (⟨⟨r.ix,r.num,r.b.l,[(r.who,r.un)]⟩,a83,cap83,some b77,1⟩:KM) (kms.take i)=false:=by first|(simpa using hg19)|(simp_all;done)
   refine jT 3 I (AI (vs:=BH (⟨⟨r.ix,r.num,r.b.l,[(r.who,r.un)]⟩,a83,cap83,some b77,1⟩:KM)) I EM (hl:=by rw [Db];omega) (hi:=EK _)) I hp AQ ?_
   refine jM 4 I I I hp<|jP 5 I (A9 I) I hp<|jP 6 I (A1 I BB) I hp<|jT 7 I (A6 I CL (v:=sl ka kms.length kc)) I hp AQ<|jM 8 I I I hp<|jP 9 I (AO i I I BV C6 (hA:=hV) (hi:=by omega)) I hp ?_
   refine jT 10 I (BG (f:=BH) (i:=i) (y:=k) I EM (hA:=hV) (hl:=hk)) I hp AQ ?_
   refine jO 11<|B7 I (AE e5 I (hs:=Mx (a:=((⟨⟨r.ix,r.num,r.b.l,[(r.who,r.un)]⟩,a83,cap83,some b77,1⟩:KM)).kv) (b:=k.kv))) I I I I ?_
   rintro _ _ ⟨⟨⟩,rfl,hA⟩
   simp only [ca] at hA
   subst hA
   refine⟨(fun _=>Bh),?_⟩
   refine jP 12 I (AC I I) I hp<|jD<|A5 K18<|AH I (fun hc5=>?_) (fun hc5=>?_)
   ·try simp only [dz] at hc5
    have hlt:Eh ((⟨⟨r.ix,r.num,r.b.l,[(r.who,r.un)]⟩,a83,cap83,some b77,1⟩:KM)).e.key k.e.key:=by first|assumption|(simp_all;done)
    refine A4 fun _ K20=>wM I I<|A2 (AI (vs:=BH (⟨⟨r.ix,r.num,r.b.l,[(r.who,r.un)]⟩,a83,cap83,some b77,1⟩:KM)) I EM (hl:=by rw [Db];omega) (hi:=EK _)) I ?_
    refine AB (Br (xs:=BH (⟨⟨r.ix,r.num,r.b.l,[(r.who,r.un)]⟩,a83,cap83,some b77,1⟩:KM)) I BV Ey C6 (hl:=encKM.len _)) I I I ?_
    rintro _ _ ⟨b109,rfl,rfl⟩
    refine AB (B6 (f:=BH) encKM (⟨⟨r.ix,r.num,r.b.l,[(r.who,r.un)]⟩,a83,cap83,some b77,1⟩:KM) I I BV BV Ia) I I I ?_
    rintro _ _ ⟨a110,cap110,rfl,rfl⟩
    rw [show (Ek (⟨⟨r.ix,r.num,r.b.l,[(r.who,r.un)]⟩,a83,cap83,some b77,1⟩:KM) (kms.take i)).length+1=((Ek (⟨⟨r.ix,r.num,r.b.l,[(r.who,r.un)]⟩,a83,cap83,some b77,1⟩:KM) (kms.take i))++ [(⟨⟨r.ix,r.num,r.b.l,[(r.who,r.un)]⟩,a83,cap83,some b77,1⟩:KM)]).length from by rw [List.length_append];rfl]
    have hol2:((Ek (⟨⟨r.ix,r.num,r.b.l,[(r.who,r.un)]⟩,a83,cap83,some b77,1⟩:KM) (kms.take i))++ [(⟨⟨r.ix,r.num,r.b.l,[(r.who,r.un)]⟩,a83,cap83,some b77,1⟩:KM)]).length<=100000002:=by rw [List.length_append];show _+1<=_;omega
    refine wA I I<|A3 K20<|AD<|A2 (AL (v:=.bool (KO (⟨⟨r.ix,r.num,r.b.l,[(r.who,r.un)]⟩,a83,cap83,some b77,1⟩:KM) (kms.take (i+1)))) (Ag I) (congrArg Value.bool (by rw [hsn];first|exact(M3 hgf hlt).2.symm|exact(M3 hgf hlt).2))) I ?_
    refine AW<|A5 K17<|AD<|wM I I<|wM I I<|A2 (A9 I) I<|A2 (A1 I BB) I<|A2 (A6 I CL (v:=sl ka kms.length kc)) I<|wM I I<|A2 (AO i I I BV C6 (hA:=hV) (hi:=by omega)) I ?_
    refine A2 (BG (f:=BH) (i:=i) (y:=k) I EM (hA:=hV) (hl:=hk)) I ?_
    refine AB (Br (xs:=BH k) I BV Ey C6 (hl:=encKM.len _)) I I I ?_
    rintro _ _ ⟨b119,rfl,rfl⟩
    refine AB (B6 (f:=BH) encKM k I I BV BV Ia) I I I ?_
    rintro _ _ ⟨a120,cap120,rfl,rfl⟩
    rw [show ((Ek (⟨⟨r.ix,r.num,r.b.l,[(r.who,r.un)]⟩,a83,cap83,some b77,1⟩:KM) (kms.take i))++ [(⟨⟨r.ix,r.num,r.b.l,[(r.who,r.un)]⟩,a83,cap83,some b77,1⟩:KM)])++ [k]=(Ek (⟨⟨r.ix,r.num,r.b.l,[(r.who,r.un)]⟩,a83,cap83,some b77,1⟩:KM) (kms.take (i+1))) from by rw [hsn];exact(M3 hgf hlt).1,show ((Ek (⟨⟨r.ix,r.num,r.b.l,[(r.who,r.un)]⟩,a83,cap83,some b77,1⟩:KM) (kms.take i))++ [(⟨⟨r.ix,r.num,r.b.l,[(r.who,r.un)]⟩,a83,cap83,some b77,1⟩:KM)]).length+1=(Ek (⟨⟨r.ix,r.num,r.b.l,[(r.who,r.un)]⟩,a83,cap83,some b77,1⟩:KM) (kms.take (i+1))).length from by rw [hsn,<-(M3 hgf hlt).1,List.length_append (bs:= [k])];rfl]
    refine wA I I<|AW<|A5 K16<|AD<|wM I I<|A2 (AN (j:=1) I I) I<|wA I I<|AW<|Az (K13 ⟨i+1,a120,cap120⟩ (by (try dsimp only);omega) (by (try dsimp only);omega))
   try simp only [dz] at hc5
   refine AA<|A5 K17<|AD<|wM I I<|wM I I<|A2 (A9 I) I<|A2 (A1 I BB) I<|A2 (A6 I CL (v:=sl ka kms.length kc)) I<|wM I I<|A2 (AO i I I BV C6 (hA:=hV) (hi:=by omega)) I ?_
   refine A2 (BG (f:=BH) (i:=i) (y:=k) I EM (hA:=hV) (hl:=hk)) I ?_
   refine AB (Br (xs:=BH k) I BV Ey C6 (hl:=encKM.len _)) I I I ?_
   rintro _ _ ⟨b119,rfl,rfl⟩
   refine AB (B6 (f:=BH) encKM k I I BV BV Ia) I I I ?_
   rintro _ _ ⟨a120,cap120,rfl,rfl⟩
   have hnl: ¬Eh ((⟨⟨r.ix,r.num,r.b.l,[(r.who,r.un)]⟩,a83,cap83,some b77,1⟩:KM)).e.key k.e.key:=by first|assumption|(simp_all;done)
   rw [show (Ek (⟨⟨r.ix,r.num,r.b.l,[(r.who,r.un)]⟩,a83,cap83,some b77,1⟩:KM) (kms.take i))++ [k]=(Ek (⟨⟨r.ix,r.num,r.b.l,[(r.who,r.un)]⟩,a83,cap83,some b77,1⟩:KM) (kms.take (i+1))) from by rw [hsn];exact(P9 hgf hnl).1,show (Ek (⟨⟨r.ix,r.num,r.b.l,[(r.who,r.un)]⟩,a83,cap83,some b77,1⟩:KM) (kms.take i)).length+1=(Ek (⟨⟨r.ix,r.num,r.b.l,[(r.who,r.un)]⟩,a83,cap83,some b77,1⟩:KM) (kms.take (i+1))).length from by rw [hsn,<-(P9 hgf hnl).1,List.length_append];rfl,show (KO (⟨⟨r.ix,r.num,r.b.l,[(r.who,r.un)]⟩,a83,cap83,some b77,1⟩:KM) (kms.take i))=(KO (⟨⟨r.ix,r.num,r.b.l,[(r.who,r.un)]⟩,a83,cap83,some b77,1⟩:KM) (kms.take (i+1))) from by rw [hgf,hsn,(P9 hgf hnl).2]]
   refine wA I I<|AW<|A5 K16<|AD<|wM I I<|A2 (AN (j:=1) I I) I<|wA I I<|AW<|Az (K13 ⟨i+1,a120,cap120⟩ (by (try dsimp only);omega) (by (try dsimp only);omega))
  try simp only [dz] at hg19
  have hgf:KO (⟨⟨r.ix,r.num,r.b.l,[(r.who,r.un)]⟩,a83,cap83,some b77,1⟩:KM) (kms.take i)=true:=by first|(simpa using hg19)|(simp_all;done)
  refine jK 3 I I hp<|jK 4 I I hp<|jK 5 I I hp<|jK 6 I I hp<|jK 7 I I hp<|jK 8 I I hp<|jK 9 I I hp<|jK 10 I I hp<|jO 11<|CN I I I I (fun _=>Bh) ?_
  refine jP 12 I (A8 I I) I hp<|jD<|A5 K18<|AM I<|AA<|A5 K17<|AD<|wM I I<|wM I I<|A2 (A9 I) I<|A2 (A1 I BB) I<|A2 (A6 I CL (v:=sl ka kms.length kc)) I<|wM I I<|A2 (AO i I I BV C6 (hA:=hV) (hi:=by omega)) I ?_
  refine A2 (BG (f:=BH) (i:=i) (y:=k) I EM (hA:=hV) (hl:=hk)) I ?_
  refine AB (Br (xs:=BH k) I BV Ey C6 (hl:=encKM.len _)) I I I ?_
  rintro _ _ ⟨b119,rfl,rfl⟩
  refine AB (B6 (f:=BH) encKM k I I BV BV Ia) I I I ?_
  rintro _ _ ⟨a120,cap120,rfl,rfl⟩
  rw [show (Ek (⟨⟨r.ix,r.num,r.b.l,[(r.who,r.un)]⟩,a83,cap83,some b77,1⟩:KM) (kms.take i))++ [k]=(Ek (⟨⟨r.ix,r.num,r.b.l,[(r.who,r.un)]⟩,a83,cap83,some b77,1⟩:KM) (kms.take (i+1))) from by rw [hsn];exact(N6 hgf).1,show (Ek (⟨⟨r.ix,r.num,r.b.l,[(r.who,r.un)]⟩,a83,cap83,some b77,1⟩:KM) (kms.take i)).length+1=(Ek (⟨⟨r.ix,r.num,r.b.l,[(r.who,r.un)]⟩,a83,cap83,some b77,1⟩:KM) (kms.take (i+1))).length from by rw [hsn,<-(N6 hgf).1,List.length_append];rfl,show (KO (⟨⟨r.ix,r.num,r.b.l,[(r.who,r.un)]⟩,a83,cap83,some b77,1⟩:KM) (kms.take i))=(KO (⟨⟨r.ix,r.num,r.b.l,[(r.who,r.un)]⟩,a83,cap83,some b77,1⟩:KM) (kms.take (i+1))) from by rw [hgf,hsn,(N6 hgf).2]]
  refine wA I I<|AW<|A5 K16<|AD<|wM I I<|A2 (AN (j:=1) I I) I<|wA I I<|AW<|Az (K13 ⟨i+1,a120,cap120⟩ (by (try dsimp only);omega) (by (try dsimp only);omega))
 try simp only [dz] at hc4
 obtain rfl:i=kms.length:=by omega
 rw [List.take_length]
 have hol3:=Qq (⟨⟨r.ix,r.num,r.b.l,[(r.who,r.un)]⟩,a83,cap83,some b77,1⟩:KM) kms
 refine Aj<|A5 K11<|A7 fun _ K21=>A4 fun _ K22=>wM I I<|A2 (Au I) I<|A3 K22<|AH I (fun hc6=>?_) (fun hc6=>?_)
 ·try simp only [dz] at hc6
  have hge:KO (⟨⟨r.ix,r.num,r.b.l,[(r.who,r.un)]⟩,a83,cap83,some b77,1⟩:KM) kms=false:=by first|assumption|(simpa using hc6)|(simp_all;done)
  refine AD<|wM I I<|A2 (AI (vs:=BH (⟨⟨r.ix,r.num,r.b.l,[(r.who,r.un)]⟩,a83,cap83,some b77,1⟩:KM)) I EM (hl:=by rw [Db];omega) (hi:=EK _)) I ?_
  refine AB (Br (xs:=BH (⟨⟨r.ix,r.num,r.b.l,[(r.who,r.un)]⟩,a83,cap83,some b77,1⟩:KM)) I BV Ey C6 (hl:=encKM.len _)) I I I ?_
  rintro _ _ ⟨b125,rfl,rfl⟩
  refine AB (B6 (f:=BH) encKM (⟨⟨r.ix,r.num,r.b.l,[(r.who,r.un)]⟩,a83,cap83,some b77,1⟩:KM) I I BV BV Ia) I I I ?_
  rintro _ _ ⟨a126,cap126,rfl,rfl⟩
  rw [TY hge,show (Ek (⟨⟨r.ix,r.num,r.b.l,[(r.who,r.un)]⟩,a83,cap83,some b77,1⟩:KM) kms).length+1=(Hh (⟨⟨r.ix,r.num,r.b.l,[(r.who,r.un)]⟩,a83,cap83,some b77,1⟩:KM) kms).length from by rw [<-TY hge,List.length_append];rfl]
  refine wA I I<|AW<|A5 K21<|A4 fun _ K23=>wM I I<|wM I I<|A2 (A9 I) I<|A2 (A1 I BB) I<|OU 5 44 kms r.ix r.num r.b.l [(r.who,r.un)] a83 cap83 (some b77) 1 ?_
  refine Dl (star (CQ 5 44) ((⟨⟨r.ix,r.num,r.b.l,[(r.who,r.un)]⟩,a83,cap83,some b77,1⟩:KM)::kms)) (star (CQ 5 44) (Hh (⟨⟨r.ix,r.num,r.b.l,[(r.who,r.un)]⟩,a83,cap83,some b77,1⟩:KM) kms)) (Fy (J5 (⟨⟨r.ix,r.num,r.b.l,[(r.who,r.un)]⟩,a83,cap83,some b77,1⟩:KM) kms)) ?_
  refine AX (Ar I I La) I I ?_
  rintro _ _ rfl
  refine A3 K23<|A4 fun _ K24=>A2 (AL (v:=.agg ([.int .u8 2,.slice none 0 0,.slice none 0 0]:List Value).toArray) (Ah Bp I) I) I<|AX (AV (ys:= [.int .u8 2,.slice none 0 0,.slice none 0 0]) I I Ba (h1:=by simp [BD,Value.cells,Value.oneCell',sl]) (hr:=I)) I I ?_
  rintro _ _ rfl
  refine A3 K24<|AK ?_
  exact hret.gf ⟨(Hh (⟨⟨r.ix,r.num,r.b.l,[(r.who,r.un)]⟩,a83,cap83,some b77,1⟩:KM) kms,a126,cap126),SY (⟨⟨r.ix,r.num,r.b.l,[(r.who,r.un)]⟩,a83,cap83,some b77,1⟩:KM) kms⟩ (Fl rfl rfl Bn)
 try simp only [dz] at hc6
 have hge:KO (⟨⟨r.ix,r.num,r.b.l,[(r.who,r.un)]⟩,a83,cap83,some b77,1⟩:KM) kms=true:=by first|assumption|(simpa using hc6)|(simp_all;done)
 rw [XP hge]
 refine AA<|A5 K21<|A4 fun _ K25=>wM I I<|wM I I<|A2 (A9 I) I<|A2 (A1 I BB) I<|OU 5 44 kms r.ix r.num r.b.l [(r.who,r.un)] a83 cap83 (some b77) 1 ?_
 refine Dl (star (CQ 5 44) ((⟨⟨r.ix,r.num,r.b.l,[(r.who,r.un)]⟩,a83,cap83,some b77,1⟩:KM)::kms)) (star (CQ 5 44) (Hh (⟨⟨r.ix,r.num,r.b.l,[(r.who,r.un)]⟩,a83,cap83,some b77,1⟩:KM) kms)) (Fy (J5 (⟨⟨r.ix,r.num,r.b.l,[(r.who,r.un)]⟩,a83,cap83,some b77,1⟩:KM) kms)) ?_
 refine AX (Ar I I La) I I ?_
 rintro _ _ rfl
 refine A3 K25<|A4 fun _ K26=>A2 (AL (v:=.agg ([.int .u8 2,.slice none 0 0,.slice none 0 0]:List Value).toArray) (Ah Bp I) I) I<|AX (AV (ys:= [.int .u8 2,.slice none 0 0,.slice none 0 0]) I I Ba (h1:=by simp [BD,Value.cells,Value.oneCell',sl]) (hr:=I)) I I ?_
 rintro _ _ rfl
 refine A3 K26<|AK ?_
 exact hret.gf ⟨(Hh (⟨⟨r.ix,r.num,r.b.l,[(r.who,r.un)]⟩,a83,cap83,some b77,1⟩:KM) kms,a,c),SY (⟨⟨r.ix,r.num,r.b.l,[(r.who,r.un)]⟩,a83,cap83,some b77,1⟩:KM) kms⟩ (Fl rfl rfl Bn)
end Go.Proofs.YtoakfknnaiapiaaGreat
/-
 The document's server as one thing owned;where a share stands. (Conditions:none;generic over the program.)
-/
set_option maxRecDepth 20000
namespace Go.SvM
open Go.SL Go.ShM Go.RowKit
def Du(tS tK tU tL:TypeId)(p:Nat)(room:Int)(s:Sv1):Ao:=M7 (fun q:List KM × Option Nat × Nat=>q.1.map KM.e=s.l) (fun q=> [cl p tS [.int .i64 room,.int .i64 s.tick,sl q.2.1 q.1.length q.2.2],Aa q.2.1 q.2.2 19 tK BH q.1,star (CQ tU tL) q.1])
theorem E5{tS tK tU tL:TypeId}{p:Nat}{room:Int}{s:Sv1}{R:List Ao}{w:World}(kms:List KM)(ka:Option Nat)(kc:Nat)(hL:kms.map KM.e=s.l)(h:sat w ([cl p tS [.int .i64 room,.int .i64 s.tick,sl ka kms.length kc],Aa ka kc 19 tK BH kms,star (CQ tU tL) kms]++R)):sat w (Du tS tK tU tL p room s::R):=FD.2 ⟨(kms,ka,kc),hL,h⟩
theorem Qn{kms:List KM}{i:Nat}{e:Kp}(h:(kms.map KM.e)[i]? =some e): ∃A k B,kms=A++k::B/\A.length=i/\k.e=e:=by
 rw [List.getElem?_map] at h
 cases hk:kms[i]? with
 |none=>rw [hk] at h;cases h
 |some k=>
  rw [hk] at h
  obtain⟨hi,e1⟩:=List.getElem?_eq_some_iff.1 hk
  refine⟨kms.take i,k,kms.drop (i+1),?_,by rw [List.length_take];omega,Option.some.inj h⟩
  rw [<-J9 hk,List.take_append_drop]
theorem WH{k0:Ky}{f:List Ls ->List Ls}{A B:List KM}{k:KM}{la:Option Nat}{lc:Nat}(h:SrtK ((A++k::B).map KM.e))(hk:k.e.key=k0):(A++k.put (f k.e.ls) la lc::B).map KM.e=Gz k0 f ((A++k::B).map KM.e):=by
 have hnd:=h.nd
 rw [List.map_append,List.map_cons,List.map_append,List.map_cons] at hnd
 have h2:=List.nodup_cons.1 ((List.perm_middle.nodup_iff).1 hnd)
 rw [List.mem_append,not_or,hk] at h2
 have hA:=IN (f:=f) h2.1.1
 have hB:=IN (f:=f) h2.1.2
 unfold Gz at hA hB ⊢
 rw [List.map_append (f:=KM.e) (l₁:=A),List.map_append (f:=KM.e) (l₁:=A),List.map_cons,List.map_cons,List.map_append,List.map_cons,if_pos hk,hA,hB]
 rfl
theorem UJ{room:Int}{l l2:List Kp}{r:Rq}{rp:Rp}(h:E2 room l r=(rp,l2)):rp.ns= []/\rp.bs= []:=by
 unfold E2 at h
 split at h <;>(repeat' split at h) <;>(cases h;exact⟨rfl,rfl⟩)
theorem L1{k0:Ky}{l:List Kp}{i:Nat}(h:Ed k0 l=some i): ∃e,l[i]? =some e/\e.key=k0/\EF k0 l=some e:=by
 obtain⟨e,h1,h2,h3⟩:=Qs h
 exact⟨e,h1,of_decide_eq_true h2,h3⟩
theorem Hy{k0:Ky}{l:List Kp}(h:Ed k0 l=none):EF k0 l=none:=XT h
end Go.SvM
namespace Go.Proofs.YtoakfknnaiapiaaGreat
open Go.RowKit Go.SL Go.ShM Go.SvM
set_option maxHeartbeats 1000000
set_option maxRecDepth 20000
set_option linter.all false

theorem fM{p:Nat}{kms:List KM}{ka:Option Nat}{kc:Nat}{room tick:Int}{f:FuncId}{args:List Value}{Y:List Ao}{ρ:Type}{val:ρ ->Value}{post:ρ ->List Ao}(h: ∀(hV:Sv [Aa ka kc 19 83 BH kms] (sl ka kms.length kc) 19 BH kms (ka.map fun g=>⟨g,0,none⟩) kc),Ct Tryz.prog f args ([cl p 24 [.int .i64 room,.int .i64 tick,sl ka kms.length kc],Aa ka kc 19 83 BH kms,star (CQ 5 44) kms]++Y) val post):Ct Tryz.prog f args ([cl p 24 [.int .i64 room,.int .i64 tick,sl ka kms.length kc],Aa ka kc 19 83 BH kms,star (CQ 5 44) kms]++Y) val post:=
 ⟨fun F w hs=>by
  have hkf:=B1 (a:=ka) (cap:=kc) (e:=19) (T:=83) (f:=BH) (l:=kms) (A:=([cl p 24 [.int .i64 room,.int .i64 tick,sl ka kms.length kc],Aa ka kc 19 83 BH kms,star (CQ 5 44) kms]++Y)++F) (Has.there Has.here) hs
  exact(h (BM encKM hkf.1 hkf.2)).out F w hs⟩
theorem Q2{p:Nat}{room t:Int}{s:Sv1}(h:t<s.tick\/1099511627776<t):Ct Tryz.prog 22 [.pointer (some ⟨p,0,none⟩),.int .i64 t] [Du 24 83 5 44 p room s] (fun _:Unit=>.int .i64 191) (fun _=> [Du 24 83 5 44 p room s]):=
 G6 fun q hq=>((Vw (p:=p) (v:=sl q.2.1 q.1.length q.2.2) (room:=room) (tick:=s.tick) (t1:=t) h).frame [Aa q.2.1 q.2.2 19 83 BH q.1,star (CQ 5 44) q.1]).reg fun g F w z=>⟨(),rfl,E5 q.1 q.2.1 q.2.2 hq z⟩
theorem HS{p:Nat}{room t:Int}{s:Sv1}(hw:Wf room s)(hn:s.l.length<=100000000)(h1:s.tick<=t)(h2:t<=1099511627776):Ct Tryz.prog 22 [.pointer (some ⟨p,0,none⟩),.int .i64 t] [Du 24 83 5 44 p room s] (fun _:Unit=>.int .i64 0) (fun _=> [Du 24 83 5 44 p room ⟨t,BW t s.l⟩]):=
 G6 fun q hq=>(Jv (p:=p) (kms:=q.1) (ka:=q.2.1) (kc:=q.2.2) (room:=room) (tick:=s.tick) (t1:=t) h1 h2 (by rw [<-hq,List.length_map] at hn;exact hn) (fun k hk=>by have:=(hw.ls k.e (by rw [<-hq];exact List.mem_map.2 ⟨k,hk,rfl⟩)).2;omega)).reg fun g F w z=>⟨(),rfl,E5 (s:=⟨t,BW t s.l⟩) g.1.1 g.1.2.1 g.1.2.2 (by rw [g.2,hq]) z⟩
theorem Vk{p:Nat}{room:Int}{s:Sv1}(hw:Wf room s)(hn:s.l.length<=100000000):Ct Tryz.prog 31 [.pointer (some ⟨p,0,none⟩)] [Du 24 83 5 44 p room s] (fun _:Unit=>.int .i64 (((C0 s.l):Nat):Int)) (fun _=> [Du 24 83 5 44 p room s]):=
 G6 fun q hq=>by
  obtain⟨kms,ka,kc⟩:=q
  refine fM (Y:= []) fun hV=>?_
  have hn':(kms.map KM.kv).length<=100000000:=by rw [List.length_map];rw [<-hq,List.length_map] at hn;exact hn
  exact((II (X:=Aa ka kc 19 83 BH kms) (p:=p) (kvs:=kms.map KM.kv) (room:=room) (tick:=s.tick) (Et hV) hn' (by rw [CO,hq];have:=hw.used;have:=hw.rm;omega)).frame [star (CQ 5 44) kms]).reg fun g F w z=>⟨(),by rw [CO,hq],E5 kms ka kc hq z⟩
theorem H3{p:Nat}{room:Int}{s:Sv1}{ix:Ix}(hn:s.l.length<=100000000):Ct Tryz.prog 56 [.pointer (some ⟨p,0,none⟩),(aU .u8 ix.l)] [Du 24 83 5 44 p room s] (fun g:(Option Nat × Nat) × (Option Nat × Nat)=>.tuple #[sl g.1.1 (CB ix s.l).length g.1.2,sl g.2.1 (Gr ix s.l).length g.2.2]) (fun g=> [Du 24 83 5 44 p room s,Aa g.1.1 g.1.2 1 3 eI (CB ix s.l),Aa g.2.1 g.2.2 1 3 eI (Gr ix s.l)]):=
 G6 fun q hq=>by
  obtain⟨kms,ka,kc⟩:=q
  refine fM (Y:= []) fun hV=>?_
  have hn':(kms.map KM.kv).length<=100000000:=by rw [List.length_map];rw [<-hq,List.length_map] at hn;exact hn
  refine((QU (X:=Aa ka kc 19 83 BH kms) (p:=p) (kvs:=kms.map KM.kv) (room:=room) (tick:=s.tick) (ix:=ix) (Et hV) hn').frame [star (CQ 5 44) kms]).reg fun g F w z=>?_
  rw [CO] at z
  simp only at hq
  rw [hq] at z
  refine⟨g,by rw [CO,hq],?_⟩
  simp only [List.cons_append,List.nil_append] at z ⊢
  have h4:=AS (show Gv _ [cl p 24 [.int .i64 room,.int .i64 s.tick,sl ka kms.length kc],Aa ka kc 19 83 BH kms,star (CQ 5 44) kms] _ from Gu) z
  exact E5 kms ka kc hq h4
theorem Kj{p:Nat}{room:Int}{s:Sv1}{r:Rq}{Y:Ao}{rp:Rp}{l2:List Kp}(hw:Wf room s)(hB:Sv [Y] r.b.v 1 (eU .u8 (w:=8)) r.b.l r.b.ao r.b.cap)(hn:s.l.length<=100000000)(hbn:r.b.l.length<=33554432)(hc:E2 room s.l r=(rp,l2)):
  Ct Tryz.prog 74 [.pointer (some ⟨p,0,none⟩),.agg (CP r).toArray] [Du 24 83 5 44 p room s,Y] (fun _:Unit=>.agg [.int .u8 rp.kind,.slice none 0 0,.slice none 0 0].toArray) (fun _=> [Du 24 83 5 44 p room ⟨s.tick,l2⟩,Y]):=
 G6 fun q hq=>by
  obtain⟨kms,ka,kc⟩:=q
  simp only at hq ⊢
  obtain⟨stk,sL⟩:=s
  simp only at hq hc hn
  subst hq
  have hn':kms.length<=100000000:=by rw [List.length_map] at hn;exact hn
  have hus:((C0 (kms.map KM.e):Nat):Int)<=room:=hw.used
  have hrm:=hw.rm
  cases hf:Ed (r.ix,r.num) (kms.map KM.e) with
  |none=>
   by_cases h3:room<((C0 (kms.map KM.e)+r.b.l.length:Nat):Int)
   ·rw [LN (Hy hf) (by omega)] at hc
    cases hc
    exact(Q9 (p:=p) (tick:=stk) hB hn' hbn (by omega) hf h3).reg fun g F w z=>⟨(),rfl,E5 (s:=⟨stk,kms.map KM.e⟩) kms ka kc rfl z⟩
   ·rw [MY (Hy hf) (by omega)] at hc
    cases hc
    exact(S4 (p:=p) (tick:=stk) hB hn' hbn (by omega) hf h3).reg fun g F w z=>⟨(),rfl,E5 (s:=⟨stk,IF ⟨r.ix,r.num,r.b.l,[(r.who,r.un)]⟩ (kms.map KM.e)⟩) g.1.1 g.1.2.1 g.1.2.2 g.2 z⟩
  |some i=>
   obtain⟨e,he,hke,hfk⟩:=L1 hf
   obtain⟨A,k,B,rfl,rfl,rfl⟩:=Qn he
   have hwe:=hw.one (show k.e∈(A++k::B).map KM.e from List.mem_of_getElem? he)
   by_cases h3:k.e.b=r.b.l
   ·by_cases h4:Bi r.who k.e.ls=false/\64<=k.e.ls.length
    ·rw [LL hfk h3 h4] at hc
     cases hc
     exact(Q7 (p:=p) (tick:=stk) hB hn' hwe.ls.2 hwe.ws hwe.len hf h3 h4).reg fun g F w z=>⟨(),rfl,E5 (s:=⟨stk,(A++k::B).map KM.e⟩) (A++k::B) ka kc rfl z⟩
    ·rw [LM hfk h3 h4] at hc
     cases hc
     exact(Q8 (p:=p) (tick:=stk) hB hn' hwe.ls.2 hwe.ws hwe.len hf h3 h4).reg fun g F w z=>⟨(),rfl,E5 (s:=⟨stk,Gz (r.ix,r.num) (Bc r.who r.un) ((A++k::B).map KM.e)⟩) (A++k.put (Bc r.who r.un k.e.ls) g.2.1 g.2.2::B) g.1 kc (WH hw.srt hke) z⟩
   ·rw [Jw hfk h3] at hc
    cases hc
    exact(Oi (p:=p) (tick:=stk) hB hn' hwe.ls.2 hwe.ws hwe.len hf h3).reg fun g F w z=>⟨(),rfl,E5 (s:=⟨stk,(A++k::B).map KM.e⟩) (A++k::B) ka kc rfl z⟩

theorem Ig{p:Nat}{room:Int}{s:Sv1}{r:Rq}(hw:Wf room s)(hn:s.l.length<=100000000):Ct Tryz.prog 75 [.pointer (some ⟨p,0,none⟩),.agg (CP r).toArray,.bool false] [Du 24 83 5 44 p room s] (fun g:Option Nat × Nat=>.agg [.int .u8 1,sl g.1 (CX r s.l).length g.2,.slice none 0 0].toArray) (fun g=> [Du 24 83 5 44 p room ⟨s.tick,(KZ r.ix (fun e=>Bi r.who e.ls) (Bc r.who r.un) s.l)⟩,Aa g.1 g.2 1 3 eI (CX r s.l)]):=
 G6 fun q hq=>by
  obtain⟨kms,ka,kc⟩:=q
  obtain⟨stk,sL⟩:=s
  simp only at hq hn
  subst hq
  exact(RJ (p:=p) (kms:=kms) (ka:=ka) (kc:=kc) (room:=room) (tick:=stk) (r:=r) (by rw [List.length_map] at hn;exact hn) (fun k hk=>by have:=(hw.ls k.e (List.mem_map.2 ⟨k,hk,rfl⟩)).2;omega) (fun k hk=>hw.ws k.e (List.mem_map.2 ⟨k,hk,rfl⟩))).reg fun g F w z=>⟨(g.1.2.2.2.1,g.1.2.2.2.2),rfl,E5 (s:=⟨stk,(KZ r.ix (fun e=>Bi r.who e.ls) (Bc r.who r.un) (kms.map KM.e))⟩) g.1.1 g.1.2.1 g.1.2.2.1 g.2 z⟩

theorem Ih{p:Nat}{room:Int}{s:Sv1}{r:Rq}(hw:Wf room s)(hn:s.l.length<=100000000):Ct Tryz.prog 75 [.pointer (some ⟨p,0,none⟩),.agg (CP r).toArray,.bool true] [Du 24 83 5 44 p room s] (fun g:Option Nat × Nat=>.agg [.int .u8 1,sl g.1 (CX r s.l).length g.2,.slice none 0 0].toArray) (fun g=> [Du 24 83 5 44 p room ⟨s.tick,(KZ r.ix (fun e=>Bi r.who e.ls) (CC r.who) s.l)⟩,Aa g.1 g.2 1 3 eI (CX r s.l)]):=
 G6 fun q hq=>by
  obtain⟨kms,ka,kc⟩:=q
  obtain⟨stk,sL⟩:=s
  simp only at hq hn
  subst hq
  exact(RN (p:=p) (kms:=kms) (ka:=ka) (kc:=kc) (room:=room) (tick:=stk) (r:=r) (by rw [List.length_map] at hn;exact hn) (fun k hk=>by have:=(hw.ls k.e (List.mem_map.2 ⟨k,hk,rfl⟩)).2;omega) (fun k hk=>hw.ws k.e (List.mem_map.2 ⟨k,hk,rfl⟩))).reg fun g F w z=>⟨(g.1.2.2.2.1,g.1.2.2.2.2),rfl,E5 (s:=⟨stk,(KZ r.ix (fun e=>Bi r.who e.ls) (CC r.who) (kms.map KM.e))⟩) g.1.1 g.1.2.1 g.1.2.2.1 g.2 z⟩
end Go.Proofs.YtoakfknnaiapiaaGreat
