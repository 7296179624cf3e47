/-
  Contracts of functions that the claim reaches, or the logic and the plain laws that they rest on, or the row over them. (Conditions: none beyond the statement.)
-/
import Derived.Test.YtoakfknnaiapiaaGreatKAE
set_option linter.all false
namespace Go.Proofs.YtoakfknnaiapiaaGreat
open Go.RowKit Go.SL Go.ShM Go.SvM
set_option maxHeartbeats 1000000
set_option maxRecDepth 20000
set_option linter.all false
theorem cf38:DF Tryz.prog 38=true:=by kernel_rfl
theorem cf39:DF Tryz.prog 39=true:=by kernel_rfl
theorem fk:DF Tryz.prog 42=true:=by kernel_rfl
theorem fj:DF Tryz.prog 43=true:=by kernel_rfl
theorem Lg:el Tryz.prog 44=some (2,16):=by kernel_rfl
theorem Ia:el Tryz.prog 83=some (19,72):=by kernel_rfl
theorem BB:fo Tryz.prog 24 2=some (2,22):=by kernel_rfl
theorem Ca:fo Tryz.prog 83 3=some (18,81):=by kernel_rfl
theorem TI:SG Tryz.prog 24=some ([.int .i64 0,.int .i64 0,.slice none 0 0],[(0,1),(1,1),(2,1)]):=by kernel_rfl
theorem Mj:SG Tryz.prog 44=some ([.int .u32 0,.int .i64 0],[(0,1),(1,1)]):=by kernel_rfl
theorem Mi:SG Tryz.prog 83=some ([.int .u8 0,.int .u8 0,.int .u8 0,.int .u8 0,.int .u8 0,.int .u8 0,.int .u8 0,.int .u8 0,.int .u8 0,.int .u8 0,.int .u8 0,.int .u8 0,.int .u8 0,.int .u8 0,.int .u8 0,.int .u8 0,.int .i64 0,.slice none 0 0,.slice none 0 0],[(0,16),(16,1),(17,1),(18,1)]):=by kernel_rfl
theorem La:sz Tryz.prog 22=some 1:=by kernel_rfl
theorem Gx:sz Tryz.prog 24=some 3:=by kernel_rfl
theorem IC:sz Tryz.prog 81=some 1:=by kernel_rfl
theorem C6:sz Tryz.prog 83=some 19:=by kernel_rfl
theorem CL:tk Tryz.prog 22=some none:=by kernel_rfl
theorem Fv:tk Tryz.prog 24=some (some 3):=by kernel_rfl
theorem EP:tk Tryz.prog 81=some none:=by kernel_rfl
theorem EM:tk Tryz.prog 83=some (some 19):=by kernel_rfl
theorem BV:Tryz.prog.underlying 22=some (.slice 83):=by kernel_rfl
theorem Bw:Tryz.prog.underlying 81=some (.slice 44):=by kernel_rfl
theorem MJ:zr Tryz.prog 24=some [.int .i64 0,.int .i64 0,.slice none 0 0]:=by kernel_rfl
theorem I9:zr Tryz.prog 44=some [.int .u32 0,.int .i64 0]:=by kernel_rfl
theorem Ey:zr Tryz.prog 83=some [.int .u8 0,.int .u8 0,.int .u8 0,.int .u8 0,.int .u8 0,.int .u8 0,.int .u8 0,.int .u8 0,.int .u8 0,.int .u8 0,.int .u8 0,.int .u8 0,.int .u8 0,.int .u8 0,.int .u8 0,.int .u8 0,.int .i64 0,.slice none 0 0,.slice none 0 0]:=by kernel_rfl
theorem Ql(ix:Ix)(n:Int)(ba:Option Nat)(bl bc:Nat):Er [(0,16),(16,1),(17,1),(18,1)] [(0,aU .u8 ix.l),(1,.int .i64 n),(2,sl ba bl bc)] [.int .u8 0,.int .u8 0,.int .u8 0,.int .u8 0,.int .u8 0,.int .u8 0,.int .u8 0,.int .u8 0,.int .u8 0,.int .u8 0,.int .u8 0,.int .u8 0,.int .u8 0,.int .u8 0,.int .u8 0,.int .u8 0,.int .i64 0,.slice none 0 0,.slice none 0 0]=some (FM ix n (sl ba bl bc) (.slice none 0 0)):=by
 obtain⟨l,h⟩:=ix
 obtain⟨a0,a1,a2,a3,a4,a5,a6,a7,a8,a9,a10,a11,a12,a13,a14,a15,rfl⟩:=Qp l h
 rfl

theorem WB{b m:Nat}{room tick:Int}{L:List En}{N:Nat}(hs:SrtK (L.map En.e))(hnum: ∀e∈L.map En.e,0<=e.num/\e.num<255)(hws: ∀x∈L,SrtW x.e.ls)(hlen: ∀x∈L,x.e.ls.length<=N)(hbl: ∀x∈L,x.e.b.length<=33554432)(hN:N<=1000)(hsort:U3 N)(hn:L.length<=100000000):Ct Tryz.prog 11 [.pointer (some ⟨b,0,none⟩)] [cl b 90 [.bool true,.int .i64 room,.int .i64 tick,.int .i64 (((Ap L):Nat):Int),.map (some m)],Bs m By Cc (L.map En.kp),star (Cb 102 5) L] (fun g: {kms:List KM // kms.map KM.e=L.map En.e} × Option Nat × Nat=>.agg [.int .i64 room,.int .i64 tick,sl g.2.1 g.1.1.length g.2.2].toArray) (fun g=> [cl b 90 [.bool true,.int .i64 room,.int .i64 tick,.int .i64 (((Ap L):Nat):Int),.map (some m)],Bs m By Cc (L.map En.kp),star (Cb 102 5) L,Aa g.2.1 g.2.2 19 83 BH g.1.1,star (CQ 5 44) g.1.1]):=by
 refine AY (n:=83) Tryz.func11 I I I fun F w0 Q hret hnorm hp=>?_
 change WC _ _ _ _ _ _ _ (_::_::_::F)
 have hkm:((L.map En.e).map Kp.key).length=L.length:=by rw [List.length_map,List.length_map]
 refine A4 fun _ K1=>AB (AZ MJ) I I I ?_
 rintro _ _ ⟨b2,rfl,rfl⟩
 refine A3 K1<|A7 fun _ K2=>A4 fun _ K3=>wM I I<|AB (AE RQ I (hs:=Fz (b:=b) (m:=m) (room:=room) (tick:=tick) (u:=Ap L))) I I I ?_
 rintro _ _ ⟨⟨⟩,rfl,hA⟩
 simp only [ca] at hA
 subst hA
 refine A2 (Au I) I<|A3 K3<|AM I<|AA<|A5 K2<|A7 fun _ K4=>Am CE (fun i=>([2,2,2,2,2,2,2,2,2,1,1]:List Nat).getD i 0) ?_
 refine jM 0 I I I hp<|jP 1 I (A9 I) I hp<|jP 2 I (A1 I Jh) I hp<|jT 3 I (A6 I BF) I hp AQ ?_
 refine jM 4 I I I hp<|jP 5 I (A9 I) I hp<|jP 6 I (A1 I Ku) I hp<|jT 7 I (A6 I BF) I hp AQ ?_
 refine jP 8 I (Ah TI I) I hp<|jO 9<|B7 I (AZ MJ) I I I I ?_
 rintro _ _ ⟨b3,rfl,rfl⟩
 refine⟨(fun _=>AQ),?_⟩
 refine jO 10<|Cg I (AV (ys:= [.int .i64 room,.int .i64 tick,.slice none 0 0]) I I Gx (h1:=by simp [BD,Value.cells,Value.oneCell',sl]) (hr:=I)) I I I ?_
 rintro _ _ rfl
 refine⟨(fun _=>AQ),?_⟩
 refine jD<|A5 K4<|A7 fun _ K5=>A4 fun _ K6=>wM I I<|A2 (A9 I) I<|A2 (A1 I De) I<|A2 (A6 I Fg (v:=.map (some m))) I<|AB (AE cf39 I (hs:=fN (m:=m))) I I I ?_
 rintro _ _ ⟨p27,rfl,hA⟩
 simp only [ca] at hA
 subst hA
 refine AB (AE cf38 I (hs:=Qo (p:=p27) (m:=m) (L:=L) hs hnum hn)) I I I ?_
 rintro _ _ ⟨⟨a28,cap28⟩,rfl,hA⟩
 simp only [ca] at hA
 subst hA
 refine A2 (BA I I Vm) I<|wM I I<|A3 K6<|AG<|Cz (fun w h=>BO (e:=19) (T:=83) (f:=BH) h) ?_
 refine Gq (CQ 5 44) ?_
 rw [show cl b3 24 [.int .i64 room,.int .i64 tick,.slice none 0 0]=cl b3 24 [.int .i64 room,.int .i64 tick,sl none ([]:List KM).length 0] from rfl]
 refine Ak (σ:=Nat × (List KM) × (Option Nat) × Nat) (fun ⟨i,kms,a,cap⟩=> [(30,.int .i64 ((i:Nat):Int))]) (fun ⟨i,kms,a,cap⟩=> [cl b3 24 [.int .i64 room,.int .i64 tick,sl a kms.length cap],Aa a cap 19 83 BH kms,star (CQ 5 44) kms]) (fun ⟨i,kms,a,cap⟩=>i<=L.length/\kms.map KM.e=(L.map En.e).take i) (fun ⟨i,kms,a,cap⟩=>L.length -i) ⟨0,[],none,0⟩ [0,2,3,28,29,82] Cw D8 ?_ ?_ Sub.refl ?_
 ·exact⟨Nat.zero_le _,rfl⟩
 ·(try dsimp only);exact(Wk.cons Ch Wk.nil)
 rintro⟨i,kms,a,cap⟩ ⟨hi,hkms⟩ K7 K7
 simp only [List.cons_append,List.nil_append]
 have hkl:kms.length<=L.length:=by have h:=congrArg List.length hkms;rw [List.length_map,List.length_take,List.length_map] at h;omega
 refine A4 fun _ K8=>A2 (An I I) I<|A3 K8<|A7 fun _ K9=>AH I (fun hc1=>?_) (fun hc1=>?_)
 ·try simp only [dz] at hc1
  refine Cd (a:=a28) Bf (by omega) (fun g28 hg28 hcp28=>?_)
  subst hg28
  obtain⟨A,x,B,hM,hxk,hf,hxL,htk⟩:=eD hs (show i<L.length by omega)
  rw [show star (Cb 102 5) L=star (Cb 102 5) (A++x::B) from by rw [<-hM]]
  refine ED 102 5 A x B ?_
  have hwl:(x.e.ls.map Prod.fst).length=x.e.ls.length:=List.length_map _
  refine Bu (fun w h=>B1 (a:=x.a) (cap:=x.cap) (e:=1) (T:=5) (f:=(eU .u8 (w:=8))) (l:=x.e.b) Bf h) (fun hxf=>?_)
  have hxS:Sv [Aa x.a x.cap 1 5 (eU .u8 (w:=8)) x.e.b] (sl x.a x.e.b.length x.cap) 1 (eU .u8 (w:=8)) x.e.b (x.a.map fun g=>⟨g,0,none⟩) x.cap:=BM (T:=5) (Em .u8 (w:=8)) hxf.1 hxf.2
  refine AA<|A5 K9<|A7 fun _ K10=>AG<|A4 fun _ K11=>A2 (AT i I I Vm Hk (hi:=by omega)) I ?_
  refine A2 (Po (f:=Dt) (i:=i) (y:=x.e.key) I Ff (hl:=hxk)) I ?_
  refine AB (AZ JG) I I I ?_
  rintro _ _ ⟨b5,rfl,rfl⟩
  refine AX (AV (ys:=Dt x.e.key) I I Hk (h1:=encK.one _) (hv:=by simpa [Value.cells,By] using Aw x.e.key) (hr:=by simp [Value.cells,By])) I I ?_
  rintro _ _ rfl
  refine A3 K11<|A7 fun _ K12=>Am CE (fun _=>2) ?_
  refine jM 0 I I I hp<|jP 1 I (A9 I) I hp<|jP 2 I (A1 I De) I hp<|jT 3 I (A6 I Fg (v:=.map (some m))) I hp AQ<|jT 4 I (AI (vs:=Dt x.e.key) I Ff (hl:=by rw [Aw];omega) (hi:=by rw [List.drop_zero];exact List.take_of_length_le (Nat.le_of_eq (Aw x.e.key)))) I hp AQ ?_
  refine jT 5 I (AL (v:=.pointer (some ⟨x.p,0,none⟩)) (EO G9 I I FZ Ro) (by rw [Mw,hf];rfl)) I hp AQ ?_
  refine jP 6 I (Ag I) I hp<|jD<|A5 K12<|A7 fun _ K13=>BC CE [cl b5 94 (Dt x.e.key),cl x.p 102 [sl x.a x.e.b.length x.cap,.map (some x.m)],Aa x.a x.cap 1 5 (eU .u8 (w:=8)) x.e.b] (fun i=>([2,2,2,2,2,2,2,2,1,2,1,1]:List Nat).getD i 0) ?_
  refine jP 0 I (A1 I PL) I hp<|jT 1 I (AI (vs:=x.e.ix.l.flatMap (eU .u8)) I Cv (hl:=by rw [Aw];omega) (hi:=Jf x.e.key)) I hp AQ ?_
  refine jP 2 I (A1 I PK) I hp<|jT 3 I (A6 I BF (v:=.int .i64 x.e.num) (hi:=GU x.e.key)) I hp AQ<|jM 4 I I I hp<|jP 5 I (A9 I) I hp<|jP 6 I (A1 I El) I hp<|jT 7 I (A6 I Bg (v:=sl x.a x.e.b.length x.cap)) I hp AQ<|Gp (rs:= [8,10]) (by kernel_rfl) I ?_
  refine Dc ?_ (Dc ?_ (by intro _ h;cases h))
  ·skip
   refine B7 I (AE NL I (hs:=Ef (X:=Aa x.a x.cap 1 5 (eU .u8 (w:=8)) x.e.b) (l:=x.e.b) (hS:=hxS) (by have:=hbl x hxL;omega))) I I I I ?_
   rintro _ _ ⟨⟨a48,cap48⟩,rfl,hA⟩
   simp only [ca] at hA
   subst hA
   refine⟨(fun _=>AQ),?_⟩
   refine jP 9 I (AL (v:=.agg ((FM x.e.ix x.e.num (sl a48 x.e.b.length cap48) (.slice none 0 0))).toArray) (Ah Mi I (hf:=Ql _ _ _ _ _)) I) I hp ?_
   refine jO 10<|B7 I (AZ Ey) I I I I ?_
   rintro _ _ ⟨b7,rfl,rfl⟩
   refine⟨(fun _=>AQ),?_⟩
   refine jO 11<|Cg I (AV (ys:=(FM x.e.ix x.e.num (sl a48 x.e.b.length cap48) (.slice none 0 0))) I I C6 (h1:=by simpa [Value.cells] using J4 I I) (hv:=by simpa [Value.cells] using Da _ _ _ _) (hr:=by simp [Value.cells])) I I I ?_
   rintro _ _ rfl
   refine⟨(fun _=>AQ),?_⟩
   refine jD<|A5 K13<|A7 fun _ K14=>A4 fun _ K15=>wM I I<|A2 (A9 I) I<|A2 (A1 I E0) I<|A2 (A6 I Fb (v:=.map (some x.m))) I<|AB (AE fj I (hs:=bg (m:=x.m))) I I I ?_
   rintro _ _ ⟨p54,rfl,hA⟩
   simp only [ca] at hA
   subst hA
   refine AB (AE fk I (hs:=LU (p:=p54) (m:=x.m) (ls:=x.e.ls) hsort (hws x hxL) (hlen x hxL) (by omega))) I I I ?_
   rintro _ _ ⟨⟨a55,cap55⟩,rfl,hA⟩
   simp only [ca] at hA
   subst hA
   refine A2 (BA I I B2) I<|wM I I<|A3 K15<|AG<|Cz (fun w h=>BO (e:=2) (T:=44) (f:=C9) h) ?_
   rw [show cl b7 83 (FM x.e.ix x.e.num (sl a48 x.e.b.length cap48) (.slice none 0 0))=cl b7 83 (FM x.e.ix x.e.num (sl a48 x.e.b.length cap48) (sl none (x.e.ls.take 0).length 0)) from rfl,show Aa none 0 2 44 C9 []=Aa none 0 2 44 C9 (x.e.ls.take 0) from rfl]
   refine Ak (σ:=Nat × (Option Nat) × Nat) (fun ⟨j,la,lc⟩=> [(57,.int .i64 ((j:Nat):Int))]) (fun ⟨j,la,lc⟩=> [cl b7 83 (FM x.e.ix x.e.num (sl a48 x.e.b.length cap48) (sl la (x.e.ls.take j).length lc)),Aa la lc 2 44 C9 (x.e.ls.take j)]) (fun ⟨j,la,lc⟩=>j<=x.e.ls.length) (fun ⟨j,la,lc⟩=>x.e.ls.length -j) ⟨0,none,0⟩ [0,2,3,5,6,7,28,29,30,31,32,33,34,35,36,37,38,39,40,41,42,43,44,45,46,47,48,49,50,51,52,53,54,55,56,75,76,77,78,79,80,81,82] Cw D8 ?_ ?_ Sub.refl ?_
   ·exact Nat.zero_le _
   ·(try dsimp only);exact(Wk.cons Ch Wk.nil)
   rintro⟨j,la,lc⟩ hj K16 K16
   simp only [List.cons_append,List.nil_append]
   refine A4 fun _ K17=>A2 (An I I) I<|A3 K17<|A7 fun _ K18=>AH I (fun hc2=>?_) (fun hc2=>?_)
   ·try simp only [dz] at hc2
    refine Cd (a:=a55) Bf (by omega) (fun g55 hg55 hcp55=>?_)
    subst hg55
    obtain⟨y,hy1,hy2,hy3,hy4⟩:=bY (hws x hxL) (show j<x.e.ls.length by omega)
    have htl:(x.e.ls.take j).length+1=(x.e.ls.take (j+1)).length:=by rw [hy4,List.length_append];rfl
    have htl2:(x.e.ls.take j).length<=x.e.ls.length:=by rw [List.length_take];omega
    have htl3:=hlen x hxL
    refine AA<|A5 K18<|A7 fun _ K19=>AG<|A4 fun _ K20=>A2 (AT j I I B2 BI (hi:=by omega)) I ?_
    refine A2 (AU (i:=j) (j:=0) I BX (hl:=hy2)) I ?_
    refine wA I I<|A3 K20<|Am CE (fun i=>([2,2,2,2,2,2,2,2,2,2,1,0,2,0]:List Nat).getD i 0) ?_
    refine jP 0 I (A1 I Ca) I hp<|jT 1 I (A6 I EP (v:=sl la (x.e.ls.take j).length lc) (hi:=Je _ _ _ _)) I hp AQ ?_
    refine jM 2 I I I hp<|jM 3 I I I hp<|jP 4 I (A9 I) I hp<|jP 5 I (A1 I E0) I hp<|jM 7 I I I hp<|jO 6<|I8 I (A6 I Fb (v:=.map (some x.m))) I I I (fun h=>by cases h) ?_
    refine jO 8<|I8 I (AL (v:=.int .i64 y.2) (EO IT I I EW cQ) (by rw [hy3];rfl)) I I I (fun h=>by cases h) ?_
    refine jP 9 I (Ah Mj I) I hp<|jO 10<|B7 I (Br (xs:=C9 y) I Bw I9 DD) I I I I ?_
    rintro _ _ ⟨b71,rfl,rfl⟩
    refine⟨(fun _=>AQ),?_⟩
    refine jO 11<|iA I (B6 (f:=C9) encLs y I I Bw Bw Lg) I ?_
    rintro _ _ ⟨a72,cap72,rfl,rfl⟩
    rw [<-hy4,htl]
    refine jP 12 I (A1 I Ca) I hp<|jO 13<|EN I (Ar (ys:=(FM x.e.ix x.e.num (sl a48 x.e.b.length cap48) (sl a72 (x.e.ls.take (j+1)).length cap72))) I I IC (hl:=by rw [Da];rfl) (hr:=Lx _ _ _ _ _)) I ?_
    rintro _ _ rfl
    refine jD<|A5 K19<|AD<|A2 (AN (j:=1) I I) I<|wM I I<|AW<|Av (K16 ⟨j+1,a72,cap72⟩ (by (try dsimp only);omega) (by (try dsimp only);omega))
   try simp only [dz] at hc2
   obtain rfl:j=x.e.ls.length:=by omega
   rw [List.take_length]
   refine Aj<|A5 K14<|AD<|A2 (A1 I BB) I<|A2 (A6 I CL (v:=sl a kms.length cap)) I<|A2 (AI (vs:=(FM x.e.ix x.e.num (sl a48 x.e.b.length cap48) (sl la x.e.ls.length lc))) I EM (hl:=by rw [Da];omega) (hi:=Lz _ _ _ _)) I ?_
   refine AB (Br (xs:=(FM x.e.ix x.e.num (sl a48 x.e.b.length cap48) (sl la x.e.ls.length lc))) I BV Ey C6 (hl:=Da _ _ _ _)) I I I ?_
   rintro _ _ ⟨b78,rfl,rfl⟩
   refine AB (B6 (f:=BH) encKM (⟨x.e,a48,cap48,la,lc⟩:KM) I I BV BV Ia) I I I ?_
   rintro _ _ ⟨a79,cap79,rfl,rfl⟩
   rw [show kms.length+1=(kms++ [(⟨x.e,a48,cap48,la,lc⟩:KM)]).length from by rw [List.length_append];rfl]
   refine A2 (A1 I BB) I<|AX (Ar I I La) I I ?_
   rintro _ _ rfl
   refine AW<|A5 K10<|AD<|Jp 102 5 A x B ?_
   rw [show star (Cb 102 5) (A++x::B)=star (Cb 102 5) L from by rw [<-hM]]
   refine JD 5 44 kms x.e a48 cap48 la lc ?_
   refine A2 (AN (j:=1) I I) I<|wM I I<|AW<|Av (K7 ⟨i+1,kms++ [(⟨x.e,a48,cap48,la,lc⟩:KM)],a79,cap79⟩ (⟨by (try dsimp only);omega,by(try dsimp only);rw [List.map_append,hkms,htk];rfl⟩) (by (try dsimp only);omega))
  skip
  refine B7 I (AZ Ey) I I I I ?_
  rintro _ _ ⟨b7,rfl,rfl⟩
  refine⟨(fun _=>AQ),?_⟩
  refine jO 8<|B7 I (AE NL I (hs:=Ef (X:=Aa x.a x.cap 1 5 (eU .u8 (w:=8)) x.e.b) (l:=x.e.b) (hS:=hxS) (by have:=hbl x hxL;omega))) I I I I ?_
  rintro _ _ ⟨⟨a48,cap48⟩,rfl,hA⟩
  simp only [ca] at hA
  subst hA
  refine⟨(fun _=>AQ),?_⟩
  refine jP 9 I (AL (v:=.agg ((FM x.e.ix x.e.num (sl a48 x.e.b.length cap48) (.slice none 0 0))).toArray) (Ah Mi I (hf:=Ql _ _ _ _ _)) I) I hp ?_
  refine jO 11<|Cg I (AV (ys:=(FM x.e.ix x.e.num (sl a48 x.e.b.length cap48) (.slice none 0 0))) I I C6 (h1:=by simpa [Value.cells] using J4 I I) (hv:=by simpa [Value.cells] using Da _ _ _ _) (hr:=by simp [Value.cells])) I I I ?_
  rintro _ _ rfl
  refine⟨(fun _=>AQ),?_⟩
  refine jD<|A5 K13<|A7 fun _ K21=>A4 fun _ K22=>wM I I<|A2 (A9 I) I<|A2 (A1 I E0) I<|A2 (A6 I Fb (v:=.map (some x.m))) I<|AB (AE fj I (hs:=bg (m:=x.m))) I I I ?_
  rintro _ _ ⟨p54,rfl,hA⟩
  simp only [ca] at hA
  subst hA
  refine AB (AE fk I (hs:=LU (p:=p54) (m:=x.m) (ls:=x.e.ls) hsort (hws x hxL) (hlen x hxL) (by omega))) I I I ?_
  rintro _ _ ⟨⟨a55,cap55⟩,rfl,hA⟩
  simp only [ca] at hA
  subst hA
  refine A2 (BA I I B2) I<|wM I I<|A3 K22<|AG<|Cz (fun w h=>BO (e:=2) (T:=44) (f:=C9) h) ?_
  rw [show cl b7 83 (FM x.e.ix x.e.num (sl a48 x.e.b.length cap48) (.slice none 0 0))=cl b7 83 (FM x.e.ix x.e.num (sl a48 x.e.b.length cap48) (sl none (x.e.ls.take 0).length 0)) from rfl,show Aa none 0 2 44 C9 []=Aa none 0 2 44 C9 (x.e.ls.take 0) from rfl]
  refine Ak (σ:=Nat × (Option Nat) × Nat) (fun ⟨j,la,lc⟩=> [(57,.int .i64 ((j:Nat):Int))]) (fun ⟨j,la,lc⟩=> [cl b7 83 (FM x.e.ix x.e.num (sl a48 x.e.b.length cap48) (sl la (x.e.ls.take j).length lc)),Aa la lc 2 44 C9 (x.e.ls.take j)]) (fun ⟨j,la,lc⟩=>j<=x.e.ls.length) (fun ⟨j,la,lc⟩=>x.e.ls.length -j) ⟨0,none,0⟩ [0,2,3,5,6,7,28,29,30,31,32,33,34,35,36,37,38,39,40,41,42,43,44,45,46,47,48,49,50,51,52,53,54,55,56,75,76,77,78,79,80,81,82] Cw D8 ?_ ?_ Sub.refl ?_
  ·exact Nat.zero_le _
  ·(try dsimp only);exact(Wk.cons Ch Wk.nil)
  rintro⟨j,la,lc⟩ hj K23 K23
  simp only [List.cons_append,List.nil_append]
  refine A4 fun _ K24=>A2 (An I I) I<|A3 K24<|A7 fun _ K25=>AH I (fun hc2=>?_) (fun hc2=>?_)
  ·try simp only [dz] at hc2
   refine Cd (a:=a55) Bf (by omega) (fun g55 hg55 hcp55=>?_)
   subst hg55
   obtain⟨y,hy1,hy2,hy3,hy4⟩:=bY (hws x hxL) (show j<x.e.ls.length by omega)
   have htl:(x.e.ls.take j).length+1=(x.e.ls.take (j+1)).length:=by rw [hy4,List.length_append];rfl
   have htl2:(x.e.ls.take j).length<=x.e.ls.length:=by rw [List.length_take];omega
   have htl3:=hlen x hxL
   refine AA<|A5 K25<|A7 fun _ K26=>AG<|A4 fun _ K27=>A2 (AT j I I B2 BI (hi:=by omega)) I ?_
   refine A2 (AU (i:=j) (j:=0) I BX (hl:=hy2)) I ?_
   refine wA I I<|A3 K27<|Am CE (fun i=>([2,2,2,2,2,2,2,2,2,2,1,0,2,0]:List Nat).getD i 0) ?_
   refine jP 0 I (A1 I Ca) I hp<|jT 1 I (A6 I EP (v:=sl la (x.e.ls.take j).length lc) (hi:=Je _ _ _ _)) I hp AQ ?_
   refine jM 2 I I I hp<|jM 3 I I I hp<|jP 4 I (A9 I) I hp<|jP 5 I (A1 I E0) I hp<|jM 7 I I I hp<|jO 6<|I8 I (A6 I Fb (v:=.map (some x.m))) I I I (fun h=>by cases h) ?_
   refine jO 8<|I8 I (AL (v:=.int .i64 y.2) (EO IT I I EW cQ) (by rw [hy3];rfl)) I I I (fun h=>by cases h) ?_
   refine jP 9 I (Ah Mj I) I hp<|jO 10<|B7 I (Br (xs:=C9 y) I Bw I9 DD) I I I I ?_
   rintro _ _ ⟨b71,rfl,rfl⟩
   refine⟨(fun _=>AQ),?_⟩
   refine jO 11<|iA I (B6 (f:=C9) encLs y I I Bw Bw Lg) I ?_
   rintro _ _ ⟨a72,cap72,rfl,rfl⟩
   rw [<-hy4,htl]
   refine jP 12 I (A1 I Ca) I hp<|jO 13<|EN I (Ar (ys:=(FM x.e.ix x.e.num (sl a48 x.e.b.length cap48) (sl a72 (x.e.ls.take (j+1)).length cap72))) I I IC (hl:=by rw [Da];rfl) (hr:=Lx _ _ _ _ _)) I ?_
   rintro _ _ rfl
   refine jD<|A5 K26<|AD<|A2 (AN (j:=1) I I) I<|wM I I<|AW<|Av (K23 ⟨j+1,a72,cap72⟩ (by (try dsimp only);omega) (by (try dsimp only);omega))
  try simp only [dz] at hc2
  obtain rfl:j=x.e.ls.length:=by omega
  rw [List.take_length]
  refine Aj<|A5 K21<|AD<|A2 (A1 I BB) I<|A2 (A6 I CL (v:=sl a kms.length cap)) I<|A2 (AI (vs:=(FM x.e.ix x.e.num (sl a48 x.e.b.length cap48) (sl la x.e.ls.length lc))) I EM (hl:=by rw [Da];omega) (hi:=Lz _ _ _ _)) I ?_
  refine AB (Br (xs:=(FM x.e.ix x.e.num (sl a48 x.e.b.length cap48) (sl la x.e.ls.length lc))) I BV Ey C6 (hl:=Da _ _ _ _)) I I I ?_
  rintro _ _ ⟨b78,rfl,rfl⟩
  refine AB (B6 (f:=BH) encKM (⟨x.e,a48,cap48,la,lc⟩:KM) I I BV BV Ia) I I I ?_
  rintro _ _ ⟨a79,cap79,rfl,rfl⟩
  rw [show kms.length+1=(kms++ [(⟨x.e,a48,cap48,la,lc⟩:KM)]).length from by rw [List.length_append];rfl]
  refine A2 (A1 I BB) I<|AX (Ar I I La) I I ?_
  rintro _ _ rfl
  refine AW<|A5 K10<|AD<|Jp 102 5 A x B ?_
  rw [show star (Cb 102 5) (A++x::B)=star (Cb 102 5) L from by rw [<-hM]]
  refine JD 5 44 kms x.e a48 cap48 la lc ?_
  refine A2 (AN (j:=1) I I) I<|wM I I<|AW<|Av (K7 ⟨i+1,kms++ [(⟨x.e,a48,cap48,la,lc⟩:KM)],a79,cap79⟩ (⟨by (try dsimp only);omega,by(try dsimp only);rw [List.map_append,hkms,htk];rfl⟩) (by (try dsimp only);omega))
 try simp only [dz] at hc1
 obtain rfl:i=L.length:=by omega
 have hke:kms.map KM.e=L.map En.e:=by rw [hkms];exact List.take_of_length_le (by rw [List.length_map];exact Nat.le_refl _)
 refine Aj<|A5 K5<|A4 fun _ K28=>A2 (AI (vs:= [.int .i64 room,.int .i64 tick,sl a kms.length cap]) I Fv) I<|AX (AV (ys:= [.int .i64 room,.int .i64 tick,sl a kms.length cap]) I I Gx (h1:=by simp [BD,Value.cells,Value.oneCell',sl]) (hr:=I)) I I ?_
 rintro _ _ rfl
 refine A3 K28<|AK ?_
 exact hret.go (⟨kms,hke⟩,a,cap) (Fl rfl rfl Fv)
end Go.Proofs.YtoakfknnaiapiaaGreat
namespace Go.Proofs.YtoakfknnaiapiaaGreat
open Go.RowKit Go.SL Go.ShM Go.SvM
set_option maxHeartbeats 1000000
set_option maxRecDepth 20000
set_option linter.all false
theorem Vq:tk Tryz.prog 5=some none:=by kernel_rfl
theorem Pd{α:Type}{l:List α}{i:Nat}{z:α}(h:i<l.length):l[i]? =some (l.getD i z):=by rw [List.getD_eq_getElem?_getD,List.getElem?_eq_getElem h];rfl

theorem Mc{X:Ao}{v v':Value}{l l':List B8}{ao ao':Option Addr}{cap cap':Nat}(hS:Sv [X] v 1 (eU .u8 (w:=8)) l ao cap:=by assumption)(hS':Sv [X] v' 1 (eU .u8 (w:=8)) l' ao' cap':=by assumption)(hl:l.length<=900000000000:=by omega):Ct Tryz.prog 32 [v,v'] [X] (fun _:Unit=>.bool (decide (l=l'))) (fun _=> [X]):=by
 refine AY (n:=26) Tryz.func32 I I I fun F w0 Q hret hnorm hp=>?_
 change WC _ _ _ _ _ _ _ (_::F)
 refine A4 fun _ K1=>wA I I<|A3 K1<|A7 fun _ K2=>A4 fun _ K3=>wM I I<|A2 (Al I I BQ) I ?_
 refine wM I I<|A2 (Al I I BQ) I ?_
 refine A2 (Bj I I) I ?_
 refine A3 K3<|AH I (fun hc0=>?_) (fun hc0=>?_)
 ·try simp only [dz] at hc0
  refine A4 fun _ K4=>wA I I<|A3 K4<|AK ?_
  first|exact hret.goE () (BR rfl rfl) (bF (G7 hc0))|exact hret.goE () (BR rfl rfl) (bF (I7 (z:=0#8) hc2))|exact hret.goE () (BR rfl rfl) (bT (F2 hi.2 (by omega)))
 try simp only [dz] at hc0
 refine AA<|A5 K2<|A7 fun _ K5=>A4 fun _ K6=>wA I I<|A3 K6<|AG<|Ak (σ:=Nat) (fun i'=> [(5,.int .i64 ((i':Nat):Int))]) (fun i'=> []) (fun i'=>i'<=l.length/\l.take i'=l'.take i') (fun i'=>l.length -i') (0) [0,1] Cw D8 ?_ ?_ Sub.refl ?_
 ·exact⟨Nat.zero_le _,rfl⟩
 ·(try dsimp only);exact(Wk.cons Ch Wk.nil)
 rintro i' hi K7 K7
 simp only [List.cons_append,List.nil_append]
 refine A7 fun _ K8=>A4 fun _ K9=>wM I I<|wM I I<|A2 (Al I I BQ) I ?_
 refine A2 (An I I) I<|A3 K9<|AH I (fun hc1=>?_) (fun hc1=>?_)
 ·try simp only [dz] at hc1
  refine AA<|A5 K8<|A7 fun _ K10=>AG<|A7 fun _ K11=>Am CE (fun _=>2) ?_
  refine jM 0 I I I hp<|jM 1 I I I hp<|jP 2 I (AO i' I I BQ Ki (hA:=hS) (hi:=by omega)) I hp ?_
  refine jT 3 I (Af (i:=i') (j:=0) I Vq (hA:=hS) (hl:=Pd (z:=0#8) (by omega))) I hp AQ ?_
  refine jM 4 I I I hp<|jM 5 I I I hp<|jP 6 I (AO i' I I BQ Ki (hA:=hS') (hi:=by omega)) I hp ?_
  refine jT 7 I (Af (i:=i') (j:=0) I Vq (hA:=hS') (hl:=Pd (z:=0#8) (by omega))) I hp AQ ?_
  refine jP 8 I (GZ I I) I hp ?_
  refine jD<|A5 K11<|AH I (fun hc2=>?_) (fun hc2=>?_)
  ·try simp only [dz] at hc2
   refine A4 fun _ K12=>wA I I<|A3 K12<|AK ?_
   first|exact hret.goE () (BR rfl rfl) (bF (G7 hc0))|exact hret.goE () (BR rfl rfl) (bF (I7 (z:=0#8) hc2))|exact hret.goE () (BR rfl rfl) (bT (F2 hi.2 (by omega)))
  try simp only [dz] at hc2
  refine AA<|A5 K10<|AD<|wM I I<|A2 (AN (j:=1) I I) I<|wA I I<|AW<|Av (K7 (i'+1) (⟨by omega,Ir (z:=0#8) hi.2 (by omega) (by omega) hc2⟩) (by omega))
 try simp only [dz] at hc1
 obtain rfl:i'=l.length:=by omega
 refine Aj<|A5 K5<|A4 fun _ K13=>wA I I<|A3 K13<|AK ?_
 first|exact hret.goE () (BR rfl rfl) (bF (G7 hc0))|exact hret.goE () (BR rfl rfl) (bF (I7 (z:=0#8) hc2))|exact hret.goE () (BR rfl rfl) (bT (F2 hi.2 (by omega)))

theorem WW{X:Ao}{v v':Value}{l l':List Int}{ao ao':Option Addr}{cap cap':Nat}(hS:Sv [X] v 1 eI l ao cap:=by assumption)(hS':Sv [X] v' 1 eI l' ao' cap':=by assumption)(hl:l.length<=900000000000:=by omega):Ct Tryz.prog 76 [v,v'] [X] (fun _:Unit=>.bool (decide (l=l'))) (fun _=> [X]):=by
 refine AY (n:=26) Tryz.func76 I I I fun F w0 Q hret hnorm hp=>?_
 change WC _ _ _ _ _ _ _ (_::F)
 refine A4 fun _ K1=>wA I I<|A3 K1<|A7 fun _ K2=>A4 fun _ K3=>wM I I<|A2 (Al I I Dv) I ?_
 refine wM I I<|A2 (Al I I Dv) I ?_
 refine A2 (Bj I I) I ?_
 refine A3 K3<|AH I (fun hc0=>?_) (fun hc0=>?_)
 ·try simp only [dz] at hc0
  refine A4 fun _ K4=>wA I I<|A3 K4<|AK ?_
  first|exact hret.goE () (BR rfl rfl) (bF (G7 hc0))|exact hret.goE () (BR rfl rfl) (bF (I7 (z:=0) hc2))|exact hret.goE () (BR rfl rfl) (bT (F2 hi.2 (by omega)))
 try simp only [dz] at hc0
 refine AA<|A5 K2<|A7 fun _ K5=>A4 fun _ K6=>wA I I<|A3 K6<|AG<|Ak (σ:=Nat) (fun i'=> [(5,.int .i64 ((i':Nat):Int))]) (fun i'=> []) (fun i'=>i'<=l.length/\l.take i'=l'.take i') (fun i'=>l.length -i') (0) [0,1] Cw D8 ?_ ?_ Sub.refl ?_
 ·exact⟨Nat.zero_le _,rfl⟩
 ·(try dsimp only);exact(Wk.cons Ch Wk.nil)
 rintro i' hi K7 K7
 simp only [List.cons_append,List.nil_append]
 refine A7 fun _ K8=>A4 fun _ K9=>wM I I<|wM I I<|A2 (Al I I Dv) I ?_
 refine A2 (An I I) I<|A3 K9<|AH I (fun hc1=>?_) (fun hc1=>?_)
 ·try simp only [dz] at hc1
  refine AA<|A5 K8<|A7 fun _ K10=>AG<|A7 fun _ K11=>Am CE (fun _=>2) ?_
  refine jM 0 I I I hp<|jM 1 I I I hp<|jP 2 I (AO i' I I Dv Fw (hA:=hS) (hi:=by omega)) I hp ?_
  refine jT 3 I (Af (i:=i') (j:=0) I BF (hA:=hS) (hl:=Pd (z:=(0:Int)) (by omega))) I hp AQ ?_
  refine jM 4 I I I hp<|jM 5 I I I hp<|jP 6 I (AO i' I I Dv Fw (hA:=hS') (hi:=by omega)) I hp ?_
  refine jT 7 I (Af (i:=i') (j:=0) I BF (hA:=hS') (hl:=Pd (z:=(0:Int)) (by omega))) I hp AQ ?_
  refine jP 8 I (Dy I I) I hp ?_
  refine jD<|A5 K11<|AH I (fun hc2=>?_) (fun hc2=>?_)
  ·try simp only [dz] at hc2
   refine A4 fun _ K12=>wA I I<|A3 K12<|AK ?_
   first|exact hret.goE () (BR rfl rfl) (bF (G7 hc0))|exact hret.goE () (BR rfl rfl) (bF (I7 (z:=0) hc2))|exact hret.goE () (BR rfl rfl) (bT (F2 hi.2 (by omega)))
  try simp only [dz] at hc2
  refine AA<|A5 K10<|AD<|wM I I<|A2 (AN (j:=1) I I) I<|wA I I<|AW<|Av (K7 (i'+1) (⟨by omega,Ir (z:=0) hi.2 (by omega) (by omega) hc2⟩) (by omega))
 try simp only [dz] at hc1
 obtain rfl:i'=l.length:=by omega
 refine Aj<|A5 K5<|A4 fun _ K13=>wA I I<|A3 K13<|AK ?_
 first|exact hret.goE () (BR rfl rfl) (bF (G7 hc0))|exact hret.goE () (BR rfl rfl) (bF (I7 (z:=0) hc2))|exact hret.goE () (BR rfl rfl) (bT (F2 hi.2 (by omega)))

theorem SX(a b:Ls):(!(decide ((a.1.toNat:Int)=(b.1.toNat:Int)) && (decide (a.2=b.2) && true)))= !decide (a=b):=by
 rw [Bool.and_true,Bool.eq_iff_iff]
 simp only [Bool.not_eq_true',Bool.and_eq_false_imp,decide_eq_true_eq,decide_eq_false_iff_not]
 constructor
 ·rintro h rfl;exact h rfl rfl
 ·intro h h1 h2;exact h (Prod.ext (BitVec.eq_of_toNat_eq (by omega)) h2)

theorem WU{X:Ao}{v v':Value}{l l':List Ls}{ao ao':Option Addr}{cap cap':Nat}(hS:Sv [X] v 2 C9 l ao cap:=by assumption)(hS':Sv [X] v' 2 C9 l' ao' cap':=by assumption)(hl:l.length<=900000000000:=by omega):Ct Tryz.prog 58 [v,v'] [X] (fun _:Unit=>.bool (decide (l=l'))) (fun _=> [X]):=by
 refine AY (n:=26) Tryz.func58 I I I fun F w0 Q hret hnorm hp=>?_
 change WC _ _ _ _ _ _ _ (_::F)
 refine A4 fun _ K1=>wA I I<|A3 K1<|A7 fun _ K2=>A4 fun _ K3=>wM I I<|A2 (Al I I Bw) I ?_
 refine wM I I<|A2 (Al I I Bw) I ?_
 refine A2 (Bj I I) I ?_
 refine A3 K3<|AH I (fun hc0=>?_) (fun hc0=>?_)
 ·try simp only [dz] at hc0
  refine A4 fun _ K4=>wA I I<|A3 K4<|AK ?_
  first|exact hret.goE () (BR rfl rfl) (bF (G7 hc0))|exact hret.goE () (BR rfl rfl) (bF (I7 (z:=((0#32,0):Ls)) hc2))|exact hret.goE () (BR rfl rfl) (bT (F2 hi.2 (by omega)))
 try simp only [dz] at hc0
 refine AA<|A5 K2<|A7 fun _ K5=>A4 fun _ K6=>wA I I<|A3 K6<|AG<|Ak (σ:=Nat) (fun i'=> [(5,.int .i64 ((i':Nat):Int))]) (fun i'=> []) (fun i'=>i'<=l.length/\l.take i'=l'.take i') (fun i'=>l.length -i') (0) [0,1] Cw D8 ?_ ?_ Sub.refl ?_
 ·exact⟨Nat.zero_le _,rfl⟩
 ·(try dsimp only);exact(Wk.cons Ch Wk.nil)
 rintro i' hi K7 K7
 simp only [List.cons_append,List.nil_append]
 refine A7 fun _ K8=>A4 fun _ K9=>wM I I<|wM I I<|A2 (Al I I Bw) I ?_
 refine A2 (An I I) I<|A3 K9<|AH I (fun hc1=>?_) (fun hc1=>?_)
 ·try simp only [dz] at hc1
  refine AA<|A5 K8<|A7 fun _ K10=>AG<|A7 fun _ K11=>Am CE (fun _=>2) ?_
  refine jM 0 I I I hp<|jM 1 I I I hp<|jP 2 I (AO i' I I Bw DD (hA:=hS) (hi:=by omega)) I hp ?_
  refine jT 3 I (BG (f:=C9) (i:=i') I EE (hA:=hS) (hl:=Pd (z:=((0#32,0):Ls)) (by omega))) I hp AQ ?_
  refine jM 4 I I I hp<|jM 5 I I I hp<|jP 6 I (AO i' I I Bw DD (hA:=hS') (hi:=by omega)) I hp ?_
  refine jT 7 I (BG (f:=C9) (i:=i') I EE (hA:=hS') (hl:=Pd (z:=((0#32,0):Ls)) (by omega))) I hp AQ ?_
  refine jP 8 I (AL (v:=.bool (!decide (l.getD i' ((0#32,0):Ls)=l'.getD i' ((0#32,0):Ls)))) (NX (xs:=C9 (l.getD i' ((0#32,0):Ls))) (ys:=C9 (l'.getD i' ((0#32,0):Ls))) I I JR (EqL.sc BX I I (DN MU _ _) (EqL.sc BF I I (DN Vg _ _) EqL.nil))) (by rw [SX])) I hp ?_
  refine jD<|A5 K11<|AH I (fun hc2=>?_) (fun hc2=>?_)
  ·try simp only [dz] at hc2
   refine A4 fun _ K12=>wA I I<|A3 K12<|AK ?_
   first|exact hret.goE () (BR rfl rfl) (bF (G7 hc0))|exact hret.goE () (BR rfl rfl) (bF (I7 (z:=((0#32,0):Ls)) hc2))|exact hret.goE () (BR rfl rfl) (bT (F2 hi.2 (by omega)))
  try simp only [dz] at hc2
  refine AA<|A5 K10<|AD<|wM I I<|A2 (AN (j:=1) I I) I<|wA I I<|AW<|Av (K7 (i'+1) (⟨by omega,Ir (z:=((0#32,0):Ls)) hi.2 (by omega) (by omega) hc2⟩) (by omega))
 try simp only [dz] at hc1
 obtain rfl:i'=l.length:=by omega
 refine Aj<|A5 K5<|A4 fun _ K13=>wA I I<|A3 K13<|AK ?_
 first|exact hret.goE () (BR rfl rfl) (bF (G7 hc0))|exact hret.goE () (BR rfl rfl) (bF (I7 (z:=((0#32,0):Ls)) hc2))|exact hret.goE () (BR rfl rfl) (bT (F2 hi.2 (by omega)))
end Go.Proofs.YtoakfknnaiapiaaGreat
namespace Go.Proofs.YtoakfknnaiapiaaGreat
open Go.RowKit Go.SL Go.ShM Go.SvM
set_option maxHeartbeats 1000000
set_option maxRecDepth 20000
set_option linter.all false
def ix1(x:B8):Ix:=⟨x::List.replicate 15 0#8,rfl⟩
def nilB:Pt:=⟨[],none,0⟩
def CS(ix:Ix)(n:Int)(b:Pt)(who:Bv)(un:Int):Rq:=⟨2#8,ix,n,0,0,who,un,b⟩
theorem F3{Y:Ao} :Sv [Y] nilB.v 1 (eU .u8 (w:=8)) nilB.l nilB.ao nilB.cap:=⟨rfl,fun h=>absurd rfl h,fun x h=>(List.not_mem_nil h).elim,Nat.le_refl _,fun w _ i x h=>by cases h⟩
end Go.Proofs.YtoakfknnaiapiaaGreat
namespace Go.Proofs.YtoakfknnaiapiaaGreat
open Go.RowKit Go.SL Go.ShM Go.SvM
set_option maxHeartbeats 1000000
set_option maxRecDepth 20000
set_option linter.all false
theorem Gw:tk Tryz.prog 79=some none:=by kernel_rfl
theorem bR:tk Tryz.prog 111=some none:=by kernel_rfl
theorem Ug{X:Ao}{v v':Value}{l:List Int}{ao ao':Option Addr}{cap cap':Nat}(hS:Sv [X] v 1 eI l ao cap)(hS':Sv [X] v' 1 eI l ao' cap')(hl:l.length<=900000000000):Ct Tryz.prog 76 [v,v'] [X] (fun _:Unit=>.bool true) (fun _=> [X]):=by
 have h:=WW hS hS' hl
 rw [show (Value.bool true)= .bool (decide (l=l)) from by simp]
 exact h
theorem Nv{X:Ao}{v v':Value}{l:List B8}{ao ao':Option Addr}{cap cap':Nat}(hS:Sv [X] v 1 (eU .u8 (w:=8)) l ao cap)(hS':Sv [X] v' 1 (eU .u8 (w:=8)) l ao' cap')(hl:l.length<=900000000000):Ct Tryz.prog 32 [v,v'] [X] (fun _:Unit=>.bool true) (fun _=> [X]):=by
 have h:=Mc hS hS' hl
 rw [show (Value.bool true)= .bool (decide (l=l)) from by simp]
 exact h
end Go.Proofs.YtoakfknnaiapiaaGreat
/-
 What may be loaded,share by share;a state's view in memory. (Conditions:none;generic over the program.)
-/
set_option maxRecDepth 20000
namespace Go.SvM
open Go.SL Go.ShM Go.RowKit
structure VL where
 l:List Ls
 ao:Option Addr
 cap:Nat
def VL.v(p:VL):Value:=.slice p.ao p.l.length p.cap
structure KV where
 ix:Ix
 num:Int
 b:Pt
 ls:VL
def KV.kp(k:KV):Kp:=⟨k.ix,k.num,k.b.l,k.ls.l⟩
def EC(k:KV):List Value:=FM k.ix k.num k.b.v k.ls.v
theorem H8(k:KV):(EC k).length=19:=Da _ _ _ _
theorem L8(k:KV):((EC k).drop 0).take 16=k.ix.l.flatMap (eU .u8):=P5 _ _ _ _
theorem ES(k:KV):(EC k)[16]? =some (.int .i64 k.num):=Ly _ _ _ _
theorem GL(k:KV):(EC k)[17]? =some k.b.v:=O7 _ _ _ _
theorem GE(k:KV):(EC k)[18]? =some k.ls.v:=Je _ _ _ _
theorem Tp(k:KV):((EC k).drop 0).take 19=EC k:=Lz _ _ _ _
theorem encKV:Enc EC 19:=⟨fun k=>Da _ _ _ _,fun k=>J4 rfl rfl⟩
def Lh(X:Ao)(k:KV):Prop:=Sv [X] k.b.v 1 (eU .u8 (w:=8)) k.b.l k.b.ao k.b.cap/\Sv [X] k.ls.v 2 C9 k.ls.l k.ls.ao k.ls.cap
def KM.kv(k:KM):KV:=⟨k.e.ix,k.e.num,⟨k.e.b,k.ba.map fun g=>⟨g,0,none⟩,k.bc⟩,⟨k.e.ls,k.la.map fun g=>⟨g,0,none⟩,k.lc⟩⟩
theorem KM.kv_e(k:KM):EC k.kv=BH k:=rfl
theorem KM.kv_kp(k:KM):k.kv.kp=k.e:=rfl
def Dk(t:Int)(ls:List Ls):Prop:=SrtW ls/\(∀x∈ls,t<=x.2/\x.2<=1099511627776)/\1<=ls.length/\ls.length<=64
instance (t:Int) (ls:List Ls):Decidable (Dk t ls):=by unfold Dk SrtW;infer_instance
theorem BZ{α:Type}{l:List α}{i:Nat}{x:α}(h:l[i]? =some x):l.take (i+1)=l.take i++ [x]:=by
 rw [List.take_add_one,h];rfl
theorem O3{α:Type}{l:List α}{i:Nat}{x:α}(h:x∈l.take i): ∃j,j<i/\l[j]? =some x:=by
 obtain⟨j,hj,e⟩:=List.mem_iff_getElem.1 h
 rw [List.length_take] at hj
 refine⟨j,by omega,?_⟩
 rw [List.getElem_take] at e
 rw [List.getElem?_eq_getElem (by omega),e]
theorem Ny{α:Type}{r:α ->α ->Prop}{l:List α}(h:l.Pairwise r){i j:Nat}{x y:α}(hij:i<j)(hx:l[i]? =some x)(hy:l[j]? =some y):r x y:=by
 obtain⟨h1,e1⟩:=List.getElem?_eq_some_iff.1 hx
 obtain⟨h2,e2⟩:=List.getElem?_eq_some_iff.1 hy
 have:=List.pairwise_iff_getElem.1 h i j h1 h2 hij
 rw [e1,e2] at this;exact this
theorem Ho{α:Type}{r:α ->α ->Prop}(ht: ∀ {a b c},r a b ->r b c ->r a c){l:List α}{i:Nat}{x:α}(hx:l[i]? =some x)(h:(l.take i).Pairwise r)(hp:i=0\/ ∃y,l[i -1]? =some y/\r y x):(l.take (i+1)).Pairwise r:=by
 rw [BZ hx,List.pairwise_append]
 refine⟨h,List.pairwise_singleton _ _,fun a ha b hb=>?_⟩
 rw [List.mem_singleton] at hb
 subst hb
 obtain⟨j,hj,ea⟩:=O3 ha
 rcases hp with rfl|⟨y,hy,hr⟩
 ·omega
 ·by_cases q:j=i -1
  ·subst q;rw [ea] at hy;cases hy;exact hr
  ·exact ht (Ny h (show j<i -1 by omega) (by rw [List.getElem?_take_of_lt hj];exact ea) (by rw [List.getElem?_take_of_lt (by omega)];exact hy)) hr
theorem cR{a b c:Ls}(h:Lj a b)(k:Lj b c):Lj a c:=by unfold Lj at *;omega
theorem H5{t:Int}{ls:List Ls}{i:Nat}{x:Ls}(hx:ls[i]? =some x)(h:SrtW (ls.take i))(hb: ∀y∈ls.take i,t<=y.2/\y.2<=1099511627776)(h1:t<=x.2/\x.2<=1099511627776)(hp:i=0\/ ∃y,ls[i -1]? =some y/\y.1.toNat<x.1.toNat):SrtW (ls.take (i+1))/\ ∀y∈ls.take (i+1),t<=y.2/\y.2<=1099511627776:=by
 refine⟨Ho (r:=Lj) (fun a b=>cR a b) hx h hp,fun y hy=>?_⟩
 rw [BZ hx,List.mem_append,List.mem_singleton] at hy
 rcases hy with hy|rfl
 ·exact hb y hy
 ·exact h1
theorem HF{t:Int}{ls:List Ls}{i:Nat}{x:Ls}(hx:ls[i]? =some x)(h1: ¬(t<=x.2/\x.2<=1099511627776)): ¬Dk t ls:=fun h=>h1 (h.2.1 x (List.mem_of_getElem? hx))
theorem HE{t:Int}{ls:List Ls}{i:Nat}{x y:Ls}(hi:0<i)(hx:ls[i]? =some x)(hy:ls[i -1]? =some y)(h1:x.1.toNat<=y.1.toNat): ¬Dk t ls:=fun h=>by
 have:=Ny h.1 (show i -1<i by omega) hy hx
 unfold Lj at this;omega
theorem ML{t:Int}{e:Kp}(hn:0<=e.num/\e.num<255)(hb:e.b.length<=33554432)(h:Dk t e.ls):WfK t e:=⟨h.1,hn,hb,h.2.2,h.2.1⟩
theorem WfK.ok{t:Int}{e:Kp}(h:WfK t e):Dk t e.ls:=⟨h.ws,h.un,h.ls⟩
theorem P3{room tick:Int}(h:0<=room/\room<=1073741824)(ht:0<=tick/\tick<=1099511627776):Wf room ⟨tick,[]⟩:=Wf.of h ht List.Pairwise.nil (fun e h=>(List.not_mem_nil h).elim) h.1
theorem Lr{room tick:Int}{l:List Kp}{i:Nat}{e:Kp}(hx:l[i]? =some e)(h:Wf room ⟨tick,l.take i⟩)(hk:WfK tick e)(hp:i=0\/ ∃y,l[i -1]? =some y/\Eh y.key e.key)(hu:((C0 (l.take i)+e.b.length:Nat):Int)<=room):Wf room ⟨tick,l.take (i+1)⟩:=by
 refine Wf.of h.rm h.tk (Ho (r:=fun a b:Kp=>Eh a.key b.key) (fun a b=>HG a b) hx h.srt hp) (fun y hy=>?_) ?_
 ·rw [BZ hx,List.mem_append,List.mem_singleton] at hy
  rcases hy with hy|rfl
  ·exact h.one hy
  ·exact hk
 ·show ((C0 (l.take (i+1)):Nat):Int)<=room
  rw [BZ hx,Fe,E1]
  exact hu
theorem Np{l:List Kp}(i:Nat):C0 (l.take i)<=C0 l:=by
 have:=Fe (l.take i) (l.drop i)
 rw [List.take_append_drop] at this;omega
theorem bO{room tick:Int}{l:List Kp}{i:Nat}{e:Kp}(h:Wf room ⟨tick,l⟩)(hx:l[i]? =some e):WfK tick e/\(i=0\/ ∃y,l[i -1]? =some y/\Eh y.key e.key)/\((C0 (l.take i)+e.b.length:Nat):Int)<=room:=by
 have hi:=(List.getElem?_eq_some_iff.1 hx).1
 refine⟨h.one (List.mem_of_getElem? hx),?_,?_⟩
 ·by_cases q:i=0
  ·exact .inl q
  ·exact .inr ⟨l[i -1],List.getElem?_eq_getElem (by omega),Ny (r:=fun a b:Kp=>Eh a.key b.key) h.srt (show i -1<i by omega) (List.getElem?_eq_getElem (l:=l) (by omega)) hx⟩
 ·have h1:=Np (l:=l) (i+1)
  rw [BZ hx,Fe,E1] at h1
  have h2:((C0 l:Nat):Int)<=room:=h.used
  have:C0 ([]:List Kp)=0:=rfl
  omega
def kz:Ky:=(⟨List.replicate 16 0#8,rfl⟩,0)
def Ha(l:List Kp)(i:Nat):Ky:=if i=0 then kz else (l[i -1]?.map Kp.key).getD kz
theorem Iv{l:List Kp}{i:Nat}{e:Kp}(hx:l[i]? =some e):Ha l (i+1)=e.key:=by
 unfold Ha
 rw [if_neg (by omega),Nat.add_sub_cancel,hx];rfl
theorem QJ{room tick:Int}{l:List Kp}{i:Nat}(h:Wf room ⟨tick,l.take i⟩):0<=(Ha l i).2/\(Ha l i).2<255:=by
 unfold Ha
 split
 ·exact⟨by decide,by decide⟩
 ·rename_i hi
  cases hq:l[i -1]? with
  |none=>exact⟨by decide,by decide⟩
  |some y=>exact h.num y (List.mem_of_getElem? (i:=i -1) (by rw [List.getElem?_take_of_lt (by omega)];exact hq))
theorem Ln{l:List Kp}{i:Nat}{e:Kp}(hx:l[i]? =some e)(hi:0<i)(h:Eh (Ha l i) e.key): ∃y,l[i -1]? =some y/\Eh y.key e.key:=by
 have hl:=(List.getElem?_eq_some_iff.1 hx).1
 refine⟨l[i -1],List.getElem?_eq_getElem (by omega),?_⟩
 unfold Ha at h
 rw [if_neg (by omega),List.getElem?_eq_getElem (by omega)] at h
 exact h
theorem ZI{l:List Kp}{i:Nat}{e y:Kp}(hi:0<i)(hy:l[i -1]? =some y)(h:Eh y.key e.key):Eh (Ha l i) e.key:=by
 unfold Ha
 rw [if_neg (by omega),hy];exact h
theorem M9{a b:Ky}(h: ¬0<=c9 a b):Eh a b:=(Sm a b).1 (by omega)
theorem M1{l:List Kp}{i:Nat}{e:Kp}(hx:l[i]? =some e)(h:SrtK (l.take (i+1))):e.key ∉ (l.take i).map Kp.key:=by
 rw [BZ hx] at h
 have:=h.nd
 rw [List.map_append,List.nodup_append] at this
 intro q
 exact this.2.2 _ q _ (by simp) rfl
theorem Iu{ls:List Ls}{j:Nat}{y:Ls}(hy:ls[j]? =some y)(h:SrtW ls):(EQ y.1 y.2 (ls.take j)).Perm (ls.take (j+1)):=by
 have hn:y.1 ∉ C5 (ls.take j):=fun q=>by
  obtain⟨z,hz,e⟩:=List.mem_map.1 q
  obtain⟨k,hk,ez⟩:=O3 hz
  exact MM (Ny h hk ez hy) e
 rw [BZ hy]
 unfold EQ
 rw [FW hn]
 exact(List.perm_append_comm (l₁:= [(y.1,y.2)]))
theorem Jy{L:List En}{e:Kp}{p:Nat}{a:Option Nat}{cap m:Nat}(hn:e.key ∉ (L.map En.e).map Kp.key):(EQ e.key p (L.map En.kp)).Perm ((L++ [(⟨e,p,a,cap,m⟩:En)]).map En.kp):=by
 unfold EQ
 rw [FW (by rw [Lv];exact hn),List.map_append]
 exact(List.perm_append_comm (l₁:= [(e.key,p)]))
section
variable {P : Program} {m : Md} {ops : Array Oper} {Q : Exit → Act → World → Prop} {w0 : World} {n : Nat} {rest : List Oper} {L : List (Nat × Value)} {A0 R : List Ao} {c : Code}
theorem VU(tK tU:TypeId)(e:Kp)(p:Nat)(a:Option Nat)(cap mm:Nat)(L0:List En)(k:WL P m ops Q w0 n rest L (star (Cb tK tU) (L0++ [⟨e,p,a,cap,mm⟩])::R))(hG:Gv A0 [cl p tK [sl a e.b.length cap,.map (some mm)],Aa a cap 1 tU (eU .u8 (w:=8)) e.b,Bs mm Dn DY e.ls,star (Cb tK tU) L0] R:=by repeat (first|with_reducible exact Gv.nil|(with_reducible apply Gv.cons;· (repeat (first|with_reducible exact Ext.here|with_reducible apply Ext.there))))):WL P m ops Q w0 n rest L A0:=
 ER (fun _ hs=>Dz (l:=(⟨e,p,a,cap,mm⟩:En)::L0) (List.perm_append_comm (l₁:= [_])) ((Gj (x:=(⟨e,p,a,cap,mm⟩:En))).2 (AS hG hs))) k
theorem I1(tK tU:TypeId)(v:KV)(p:Nat)(a:Option Nat)(cap mm:Nat)(L0:List En)(k:WL P m ops Q w0 n rest L (star (Cb tK tU) (L0++ [⟨v.kp,p,a,cap,mm⟩])::R))(hG:Gv A0 [cl p tK [sl a v.b.l.length cap,.map (some mm)],Aa a cap 1 tU (eU .u8 (w:=8)) v.b.l,Bs mm Dn DY v.ls.l,star (Cb tK tU) L0] R:=by repeat (first|with_reducible exact Gv.nil|(with_reducible apply Gv.cons;· (repeat (first|with_reducible exact Ext.here|with_reducible apply Ext.there))))):WL P m ops Q w0 n rest L A0:=
 VU tK tU v.kp p a cap mm L0 k hG
end
end Go.SvM
namespace Go.Proofs.YtoakfknnaiapiaaGreat
open Go.RowKit Go.SL Go.ShM Go.SvM
set_option maxHeartbeats 1000000
set_option maxRecDepth 20000
set_option linter.all false

theorem JP{t:Int}{l:List Ls}{p:Prop}[Decidable p](hss:SrtW l)(hbb: ∀y∈l,t<=y.2/\y.2<=1099511627776)(h1:1<=l.length)(hp:p<->l.length<=64):Value.bool (decide p)= .bool (decide (Dk t l)):=by
 congr 1
 exact decide_eq_decide.2 (hp.trans ⟨fun h=>⟨hss,hbb,h1,h⟩,fun h=>h.2.2.2⟩)
theorem JO{t:Int}{l:List Ls}(h1:l.length<1):Value.bool false= .bool (decide (Dk t l)):=bF fun q=>by have:=q.2.2.1;omega

theorem KF{X:Ao}{v:Value}{l:List Ls}{ao:Option Addr}{cap:Nat}{t:Int}(hS:Sv [X] v 2 C9 l ao cap:=by assumption)(hl:l.length<=900000000000:=by omega):Ct Tryz.prog 47 [v,.int .i64 t] [X] (fun _:Unit=>.bool (decide (Dk t l))) (fun _=> [X]):=by
 refine AY (n:=47) Tryz.func47 I I I fun F w0 Q hret hnorm hp=>?_
 change WC _ _ _ _ _ _ _ (_::F)
 refine A4 fun _ K1=>wA I I<|A3 K1<|A7 fun _ K2=>A4 fun _ K3=>wM I I<|A2 (Al I I Bw) I ?_
 refine wM I I<|A3 K3<|AG<|Ak (σ:=Nat) (fun i=> [(9,.int .i64 ((i:Nat):Int))]) (fun i=> []) (fun i=>i<=l.length/\SrtW (l.take i)/\ ∀y∈l.take i,t<=y.2/\y.2<=1099511627776) (fun i=>l.length -i) (0) [0,1,7,8,39,40,41,42,43,44,45,46] Cw D8 ?_ ?_ Sub.refl ?_
 ·exact⟨Nat.zero_le _,List.Pairwise.nil,fun y h=>(List.not_mem_nil h).elim⟩
 ·(try dsimp only);exact(Wk.cons Ch Wk.nil)
 rintro i ⟨hi,hss,hbb⟩ K4 K4
 simp only [List.cons_append,List.nil_append]
 refine A4 fun _ K5=>A2 (An I I) I<|A3 K5<|A7 fun _ K6=>AH I (fun hc0=>?_) (fun hc0=>?_)
 ·try simp only [dz] at hc0
  obtain⟨y,hy⟩: ∃y,l[i]? =some y:=⟨_,List.getElem?_eq_getElem (by omega)⟩
  refine AA<|A5 K6<|A7 fun _ K7=>AG<|A4 fun _ K8=>wM I I<|A2 (AO i I I Bw DD (hA:=hS) (hi:=by omega)) I ?_
  refine A2 (BG (f:=C9) (i:=i) (y:=y) I EE (hA:=hS) (hl:=hy)) I ?_
  refine AB (AZ I9) I I I ?_
  rintro _ _ ⟨b6,rfl,rfl⟩
  refine wA I I<|AX (AV (ys:=C9 y) I I DD (hv:=I) (h1:=encLs.one y) (hr:=I)) I I ?_
  rintro _ _ rfl
  refine A3 K8<|A7 fun _ K9=>BC CE [cl b6 44 (C9 y),X] (fun _=>2) ?_
  refine jP 0 I (A1 I Bm) I hp<|jT 1 I (A6 I BF (v:=.int .i64 y.2)) I hp AQ<|jM 2 I I I hp<|jP 3 I (Bt I I) I hp<|jM 4 I I I hp<|Be 18 I (fun hg10=>?_) (fun hg10=>?_)
  ·try simp only [dz] at hg10
   refine jK 5 I I hp<|jK 6 I I hp<|jK 7 I I hp<|jP 8 I (AC I I) I hp<|jM 9 I I I hp<|jK 10 I I hp<|jK 11 I I hp<|jK 12 I I hp<|jK 13 I I hp<|jK 14 I I hp<|jK 15 I I hp<|jK 16 I I hp<|jK 17 I I hp<|jK 18 I I hp<|jK 19 I I hp ?_
   refine jK 20 I I hp<|jK 21 I I hp<|jK 22 I I hp<|jP 23 I (AC I I) I hp<|jD<|A5 K9<|Ad I<|A4 fun _ K11=>wA I I<|A3 K11<|AK ?_
   first|exact hret.goE () (BR rfl rfl) (bF (HF hy (by omega)))|exact hret.goE () (BR rfl rfl) (bF (HE (by omega) hy hz (by omega)))|exact hret.goE () (BR rfl rfl) (JO (by omega))|exact hret.goE () (BR rfl rfl) (JP hss hbb (by omega) (by omega))
  try simp only [dz] at hg10
  refine jP 5 I (A1 I Bm) I hp<|jT 6 I (A6 I BF (v:=.int .i64 y.2)) I hp AQ<|jP 7 I (DI I I) I hp ?_
  refine jP 8 I (A8 I I) I hp<|jM 9 I I I hp<|Be 23 I (fun hg12=>?_) (fun hg12=>?_)
  ·try simp only [dz] at hg12
   refine jK 10 I I hp<|jK 11 I I hp<|jK 12 I I hp<|jK 13 I I hp<|jK 14 I I hp<|jK 15 I I hp<|jK 16 I I hp<|jK 17 I I hp<|jK 18 I I hp<|jK 19 I I hp<|jK 20 I I hp<|jK 21 I I hp<|jK 22 I I hp<|jP 23 I (AC I I) I hp<|jD ?_
   refine A5 K9<|Ad I<|A4 fun _ K13=>wA I I<|A3 K13<|AK ?_
   first|exact hret.goE () (BR rfl rfl) (bF (HF hy (by omega)))|exact hret.goE () (BR rfl rfl) (bF (HE (by omega) hy hz (by omega)))|exact hret.goE () (BR rfl rfl) (JO (by omega))|exact hret.goE () (BR rfl rfl) (JP hss hbb (by omega) (by omega))
  try simp only [dz] at hg12
  refine jM 10 I I I hp<|jP 11 I (Bz (j:=0) I I) I hp ?_
  refine jM 12 I I I hp<|Be 26 I (fun hg14=>?_) (fun hg14=>?_)
  ·try simp only [dz] at hg14
   obtain⟨z,hz⟩: ∃z,l[i -1]? =some z:=⟨_,List.getElem?_eq_getElem (by omega)⟩
   refine jP 13 I (A1 I Cf) I hp<|jT 14 I (A6 I BX (v:=.int .u32 ((y.1.toNat:Nat):Int))) I hp AQ<|jM 15 I I I hp<|jM 16 I I I hp<|jP 17 I (Ax (j:=1) I I) I hp<|jP 18 I (AO (i -1) I I Bw DD (hA:=hS) (hj:=by omega) (hi:=by omega)) I hp ?_
   refine jP 19 I (A1 I Cf) I hp<|jT 20 I (Af (i:=i -1) (j:=0) (y:=z) I BX (hA:=hS) (hl:=hz) (hv:=I)) I hp AQ ?_
   refine jP 21 I (D5 I I) I hp ?_
   refine jP 22 I (AC I I) I hp<|jP 23 I (A8 I I) I hp<|jD<|A5 K9<|AH I (fun hc1=>?_) (fun hc1=>?_)
   ·try simp only [dz] at hc1
    refine A4 fun _ K15=>wA I I<|A3 K15<|AK ?_
    first|exact hret.goE () (BR rfl rfl) (bF (HF hy (by omega)))|exact hret.goE () (BR rfl rfl) (bF (HE (by omega) hy hz (by omega)))|exact hret.goE () (BR rfl rfl) (JO (by omega))|exact hret.goE () (BR rfl rfl) (JP hss hbb (by omega) (by omega))
   try simp only [dz] at hc1
   refine AA<|A5 K7<|AD<|A2 (AN (j:=1) I I) I<|wM I I<|AW<|Av (K4 (i+1) (by first|exact⟨by omega,H5 hy hss hbb (by omega) (.inl (by omega))⟩|exact⟨by omega,H5 hy hss hbb (by omega) (.inr ⟨z,hz,by omega⟩)⟩) (by omega))
  try simp only [dz] at hg14
  refine jK 13 I I hp<|jK 14 I I hp<|jK 15 I I hp<|jK 16 I I hp<|jK 17 I I hp<|jK 18 I I hp<|jK 19 I I hp<|jK 20 I I hp<|jK 21 I I hp<|jP 22 I (A8 I I) I hp<|jP 23 I (A8 I I) I hp<|jD<|A5 K9<|AM I<|AA ?_
  refine A5 K7<|AD<|A2 (AN (j:=1) I I) I<|wM I I<|AW<|Av (K4 (i+1) (by first|exact⟨by omega,H5 hy hss hbb (by omega) (.inl (by omega))⟩|exact⟨by omega,H5 hy hss hbb (by omega) (.inr ⟨z,hz,by omega⟩)⟩) (by omega))
 try simp only [dz] at hc0
 obtain rfl:i=l.length:=by omega
 rw [List.take_length] at hss hbb
 refine Aj<|A5 K2<|A4 fun _ K16=>wM I I<|A2 (Al I I Bw) I ?_
 refine A2 (Bl (j:=1) I I) I ?_
 refine wM I I<|Ae 42 I (fun hg17=>?_) (fun hg17=>?_)
 ·try simp only [dz] at hg17
  refine wM I I<|A2 (Al I I Bw) I ?_
  refine A2 (D5 (j:=64) I I) I ?_
  refine A2 (AC I I) I<|wA I I<|A3 K16<|AK ?_
  first|exact hret.goE () (BR rfl rfl) (bF (HF hy (by omega)))|exact hret.goE () (BR rfl rfl) (bF (HE (by omega) hy hz (by omega)))|exact hret.goE () (BR rfl rfl) (JO (by omega))|exact hret.goE () (BR rfl rfl) (JP hss hbb (by omega) (by omega))
 try simp only [dz] at hg17
 refine wK I<|wK I<|wK I<|A2 (A8 I I) I<|wA I I<|A3 K16<|AK ?_
 first|exact hret.goE () (BR rfl rfl) (bF (HF hy (by omega)))|exact hret.goE () (BR rfl rfl) (bF (HE (by omega) hy hz (by omega)))|exact hret.goE () (BR rfl rfl) (JO (by omega))|exact hret.goE () (BR rfl rfl) (JP hss hbb (by omega) (by omega))
end Go.Proofs.YtoakfknnaiapiaaGreat
namespace Go.Proofs.YtoakfknnaiapiaaGreat
open Go.RowKit Go.SL Go.ShM Go.SvM
set_option maxHeartbeats 1000000
set_option maxRecDepth 20000
set_option linter.all false
theorem YD:DF Tryz.prog 12=true:=by kernel_rfl
theorem fh:DF Tryz.prog 47=true:=by kernel_rfl
theorem Dx:fo Tryz.prog 24 0=some (0,3):=by kernel_rfl
theorem Di:fo Tryz.prog 24 1=some (1,3):=by kernel_rfl
theorem FO:fo Tryz.prog 83 0=some (0,41):=by kernel_rfl
theorem E4:fo Tryz.prog 83 1=some (16,3):=by kernel_rfl
theorem C4:fo Tryz.prog 83 2=some (17,45):=by kernel_rfl
theorem Nq{n:Int} :Ct Tryz.prog 45 [.int .i64 n] [] (fun _:Unit=>.bool (decide (0<=n/\n<=1099511627776))) (fun _=> []):=by
 rw [show (decide (0<=n/\n<=1099511627776))=(decide (0<=n) && decide (n<=1099511627776)) from Bool.decide_and _ _]
 exact MO
theorem Mo{n:Int} :Ct Tryz.prog 46 [.int .i64 n] [] (fun _:Unit=>.bool (decide (0<=n/\n<255))) (fun _=> []):=by
 rw [show (decide (0<=n/\n<255))=(decide (0<=n) && decide (n<255)) from Bool.decide_and _ _]
 exact Kn

theorem Zc{X:Ao}{v:Value}{kvs:List KV}{ao:Option Addr}{cap:Nat}{room tick:Int}(hS:Sv [X] v 19 EC kvs ao cap)(hOK: ∀k∈kvs,Lh X k)(hn:kvs.length<=100000000)(hlb: ∀k∈kvs,k.ls.l.length<=900000000000)(hroom:0<=room/\room<=1073741824)(hno: ¬Wf room ⟨tick,(kvs.map KV.kp)⟩):Ct Tryz.prog 15 [(.agg [.int .i64 room,.int .i64 tick,v].toArray)] [X] (fun _:Unit=>.tuple #[.pointer none,.int .i64 192]) (fun _=> [X]):=by
 refine AY (n:=120) Tryz.func15 I I I fun F w0 Q hret hnorm hp=>?_
 change WC _ _ _ _ _ _ _ (_::F)
 have hpl:(kvs.map KV.kp).length=kvs.length:=List.length_map _
 refine A4 fun _ K1=>AB (Ay (xs:= [.int .i64 room,.int .i64 tick,v]) I I) I I I ?_
 rintro _ _ ⟨b1,rfl,rfl⟩
 refine wA I I<|wA I I<|A3 K1<|A4 fun _ K2=>A2 (A1 I Dx) I<|A2 (A6 I BF) I ?_
 refine AB (AE YD I (hs:=SU (room:=room) hroom)) I I I ?_
 rintro _ _ ⟨⟨s16,m16⟩,rfl,hA⟩
 simp only [ca] at hA
 subst hA
 refine wM I I<|A2 (BE I) I<|A2 (BN I) I<|wA I I<|wA I I<|A3 K2<|A7 fun _ K3=>A4 fun _ K4=>wM I I<|A2 (Bj (i:=0) (j:=0) I I) I ?_
 refine wM I I<|A2 (A1 I Di) I<|A2 (A6 I BF) I ?_
 refine AB (AE aX I (hs:=Nq (n:=tick))) I I I ?_
 rintro _ _ ⟨⟨⟩,rfl,hA⟩
 simp only [ca] at hA
 subst hA
 refine A2 (Au I) I<|A2 (A8 I I) I<|A3 K4<|AH I (fun hc0=>?_) (fun hc0=>?_)
 ·try simp only [dz] at hc0
  refine A4 fun _ K5=>wA I I<|wA I I<|A3 K5<|AK ?_
  exact hret.go () (OV rfl rfl rfl)
 try simp only [dz] at hc0
 have htk:0<=tick/\tick<=1099511627776:=by first|assumption|omega
 refine AA<|A5 K3<|A4 fun _ K6=>wM I I<|A2 (A1 I Di) I<|A2 (A6 I BF) I ?_
 refine A2 (A9 I) I<|A2 (A1 I Ku) I<|AX (Ar I I Fw) I I ?_
 rintro _ _ rfl
 refine A3 K6<|A4 fun _ K7=>AB (AZ JG) I I I ?_
 rintro _ _ ⟨b6,rfl,rfl⟩
 refine A3 K7<|A7 fun _ K8=>A4 fun _ K9=>A2 (A1 I BB) I<|A2 (A6 I CL (v:=v)) I<|A2 (Al I I BV (hA:=hS)) I ?_
 refine wM I I<|A3 K9<|AG ?_
 rw [show cl b6 94 [.int .u8 0,.int .u8 0,.int .u8 0,.int .u8 0,.int .u8 0,.int .u8 0,.int .u8 0,.int .u8 0,.int .u8 0,.int .u8 0,.int .u8 0,.int .u8 0,.int .u8 0,.int .u8 0,.int .u8 0,.int .u8 0,.int .i64 0]=cl b6 94 (Dt (Ha (kvs.map KV.kp) 0)) from rfl]
 refine Ak (σ:=Nat × (List En)) (fun ⟨i,L⟩=> [(35,.int .i64 ((i:Nat):Int))]) (fun ⟨i,L⟩=> [cl b6 94 (Dt (Ha (kvs.map KV.kp) i)),cl s16 90 [.bool true,.int .i64 room,.int .i64 tick,.int .i64 (((Ap L):Nat):Int),.map (some m16)],Bs m16 By Cc (L.map En.kp),star (Cb 102 5) L]) (fun ⟨i,L⟩=>i<=kvs.length/\L.map En.e=(kvs.map KV.kp).take i/\Wf room ⟨tick,(kvs.map KV.kp).take i⟩) (fun ⟨i,L⟩=>kvs.length -i) ⟨0,[]⟩ [1,4,6,33,34,119] Cw D8 ?_ ?_ Sub.refl ?_
 ·exact⟨Nat.zero_le _,rfl,P3 hroom htk⟩
 ·(try dsimp only);exact(Wk.cons Ch Wk.nil)
 rintro⟨i,L⟩ ⟨hi,hLm,hpw⟩ K10 K10
 simp only [List.cons_append,List.nil_append]
 refine A4 fun _ K11=>A2 (An I I) I<|A3 K11<|A7 fun _ K12=>AH I (fun hc1=>?_) (fun hc1=>?_)
 ·try simp only [dz] at hc1
  obtain⟨k,hk⟩: ∃k,kvs[i]? =some k:=⟨_,List.getElem?_eq_getElem (by omega)⟩
  have hkP:(kvs.map KV.kp)[i]? =some k.kp:=by rw [List.getElem?_map,hk];rfl
  have hkO:=hOK k (List.mem_of_getElem? hk)
  have hkl:k.ls.l.length<=900000000000:=hlb k (List.mem_of_getElem? hk)
  refine AA<|A5 K12<|A7 fun _ K13=>AG<|A4 fun _ K14=>wM I I<|A2 (AO i I I BV C6 (hA:=hS) (hi:=by omega)) I ?_
  refine A2 (BG (f:=EC) (i:=i) (y:=k) I EM (hA:=hS) (hl:=hk)) I ?_
  refine AB (AZ Ey) I I I ?_
  rintro _ _ ⟨b8,rfl,rfl⟩
  refine wA I I<|AX (AV (ys:=EC k) I I C6 (h1:=by simpa [Value.cells] using encKV.one k) (hv:=by simpa [Value.cells] using encKV.len k) (hr:=by simp [Value.cells])) I I ?_
  rintro _ _ rfl
  refine A3 K14<|A4 fun _ K15=>A2 (A1 I FO) I<|A2 (AI (vs:=k.ix.l.flatMap (eU .u8)) I Cv (hl:=by rw [H8];omega) (hi:=L8 k)) I ?_
  refine A2 (A1 I E4) I<|A2 (A6 I BF (v:=.int .i64 k.num) (hi:=ES k)) I<|A2 (AL (v:=By k.kp.key) (Ah G0 I (hf:=DU k.ix k.num)) I) I<|AB (AZ JG) I I I ?_
  rintro _ _ ⟨b9,rfl,rfl⟩
  refine AX (AV (ys:=Dt k.kp.key) I I Hk (h1:=encK.one _) (hv:=by simpa [Value.cells,By] using Aw k.kp.key) (hr:=by simp [Value.cells,By])) I I ?_
  rintro _ _ rfl
  refine A3 K15<|A7 fun _ K16=>A4 fun _ K17=>A2 (A1 I E4) I<|A2 (A6 I BF (v:=.int .i64 k.num) (hi:=ES k)) I<|AB (AE aW I (hs:=Mo (n:=k.num))) I I I ?_
  rintro _ _ ⟨⟨⟩,rfl,hA⟩
  simp only [ca] at hA
  subst hA
  refine A2 (Au I) I<|wM I I<|Ae 49 I (fun hg18=>?_) (fun hg18=>?_)
  ·try simp only [dz] at hg18
   refine wK I<|wK I<|wK I<|wK I<|A2 (AC I I) I<|wM I I<|wK I<|wK I<|wK I<|wK I<|wK I<|wK I<|A2 (AC I I) I<|wM I I<|wK I ?_
   refine wK I<|wK I<|wK I<|wK I<|wK I<|wK I<|wK I<|A2 (AC I I) I<|A3 K17<|Ad I<|A4 fun _ K19=>wA I I<|wA I I<|A3 K19<|AK ?_
   exact hret.go () (OV rfl rfl rfl)
  try simp only [dz] at hg18
  have hnum:=hg18
  refine A2 (A1 I C4) I<|A2 (A6 I Bg (v:=k.b.v) (hi:=GL k)) I<|A2 (Al I I BQ (hA:=hkO.1)) I ?_
  refine A2 (Bz (j:=33554432) I I) I ?_
  refine A2 (A8 I I) I<|wM I I<|Ae 55 I (fun hg20=>?_) (fun hg20=>?_)
  ·try simp only [dz] at hg20
   refine wK I<|wK I<|wK I<|wK I<|wK I<|wK I<|A2 (AC I I) I<|wM I I<|wK I<|wK I<|wK I<|wK I<|wK I<|wK I<|wK I ?_
   refine wK I<|A2 (AC I I) I<|A3 K17<|Ad I<|A4 fun _ K21=>wA I I<|wA I I<|A3 K21<|AK ?_
   exact hret.go () (OV rfl rfl rfl)
  try simp only [dz] at hg20
  have hlenb:=hg20
  refine A2 (A1 I Ca) I<|A2 (A6 I EP (v:=k.ls.v) (hi:=GE k)) I<|A2 (A1 I Di) I<|A2 (A6 I BF) I ?_
  refine AB (AE fh I (hs:=KF (X:=X) (l:=k.ls.l) (t:=tick) (hS:=hkO.2) (hl:=hkl))) I I I ?_
  rintro _ _ ⟨⟨⟩,rfl,hA⟩
  simp only [ca] at hA
  subst hA
  refine A2 (Au I) I<|A2 (A8 I I) I<|wM I I<|Ae 63 I (fun hg22=>?_) (fun hg22=>?_)
  ·try simp only [dz] at hg22
   refine wK I<|wK I<|wK I<|wK I<|wK I<|wK I<|wK I<|wK I<|A2 (AC I I) I<|A3 K17<|Ad I<|A4 fun _ K23=>wA I I<|wA I I<|A3 K23 ?_
   refine AK ?_
   exact hret.go () (OV rfl rfl rfl)
  try simp only [dz] at hg22
  have hlok:Dk tick k.kp.ls:=hg22
  refine wM I I<|A2 (Bz (j:=0) I I) I ?_
  refine wM I I<|Ae 66 I (fun hg24=>?_) (fun hg24=>?_)
  ·try simp only [dz] at hg24
   refine A2 (AI (vs:=Dt (Ha (kvs.map KV.kp) i)) I Ff (hl:=by rw [Aw];omega) (hi:=by rw [List.drop_zero];exact List.take_of_length_le (Nat.le_of_eq (Aw (Ha (kvs.map KV.kp) i))))) I ?_
   refine A2 (AI (vs:=Dt k.kp.key) I Ff (hl:=by rw [Aw];omega) (hi:=by rw [List.drop_zero];exact List.take_of_length_le (Nat.le_of_eq (Aw k.kp.key)))) I ?_
   refine AB (AE e6 I (hs:=NT (x:=Ha (kvs.map KV.kp) i) (y:=k.kp.key) (QJ hpw) hnum)) I I I ?_
   rintro _ _ ⟨⟨⟩,rfl,hA⟩
   simp only [ca] at hA
   subst hA
   refine A2 (Dm I I) I ?_
   refine A2 (AC I I) I<|A2 (A8 I I) I<|A3 K17<|AH I (fun hc2=>?_) (fun hc2=>?_)
   ·try simp only [dz] at hc2
    refine A4 fun _ K25=>wA I I<|wA I I<|A3 K25<|AK ?_
    exact hret.go () (OV rfl rfl rfl)
   try simp only [dz] at hc2
   have hpre:i=0\/ ∃y,(kvs.map KV.kp)[i -1]? =some y/\Eh y.key k.kp.key:=by first|exact .inl (by omega)|exact .inr (Ln hkP (by omega) (M9 (by omega)))
   have hkn:k.kp.key ∉ (L.map En.e).map Kp.key:=by rw [hLm];exact M1 hkP (Ho (r:=fun a b:Kp=>Eh a.key b.key) (fun a b=>HG a b) hkP hpw.srt hpre)
   have huL:((Ap L:Nat):Int)<=room:=by rw [Ei,hLm];exact hpw.used
   refine AA<|A5 K16<|A4 fun _ K26=>A2 (AI (vs:=Dt k.kp.key) I Ff (hl:=by rw [Aw];omega) (hi:=by rw [List.drop_zero];exact List.take_of_length_le (Nat.le_of_eq (Aw k.kp.key)))) I ?_
   refine AX (AV (ys:=Dt k.kp.key) I I Hk (hl:=by rw [Aw];exact Nat.le_refl _) (h1:=encK.one _) (hv:=by simpa [Value.cells,By] using Aw k.kp.key) (hr:=by simp [Value.cells,By,Aw])) I I ?_
   rintro _ _ rfl
   refine A3 K26<|A4 fun _ K27=>AB (FY Dn DY) I I I ?_
   rintro _ _ ⟨m74,rfl,rfl⟩
   refine wA I I<|A3 K27<|A7 fun _ K28=>A4 fun _ K29=>A2 (A1 I Ca) I<|A2 (A6 I EP (v:=k.ls.v) (hi:=GE k)) I<|A2 (Al I I Bw (hA:=hkO.2)) I ?_
   refine wM I I<|A3 K29<|AG ?_
   rw [show Bs m74 Dn DY []=Bs m74 Dn DY (k.ls.l.take 0) from rfl]
   refine Ak (σ:=Nat) (fun j=> [(78,.int .i64 ((j:Nat):Int))]) (fun j=> [Bs m74 Dn DY (k.ls.l.take j)]) (fun j=>j<=k.ls.l.length) (fun j=>k.ls.l.length -j) (0) [1,2,3,4,6,7,8,9,10,33,34,35,36,37,38,39,40,41,42,43,44,45,46,47,48,49,50,51,52,53,54,55,56,57,58,59,60,61,62,63,64,65,66,67,68,69,70,71,72,73,74,75,76,77,88,89,90,91,92,93,94,95,96,97,98,99,100,101,102,103,104,105,106,107,108,109,110,111,112,113,114,115,116,117,118,119] Cw D8 ?_ ?_ Sub.refl ?_
   ·exact Nat.zero_le _
   ·(try dsimp only);exact(Wk.cons Ch Wk.nil)
   rintro j hj K30 K30
   simp only [List.cons_append,List.nil_append]
   refine A4 fun _ K31=>A2 (An I I) I<|A3 K31<|A7 fun _ K32=>AH I (fun hc3=>?_) (fun hc3=>?_)
   ·try simp only [dz] at hc3
    obtain⟨y,hy⟩: ∃y,k.ls.l[j]? =some y:=⟨_,List.getElem?_eq_getElem (by omega)⟩
    refine AA<|A5 K32<|A7 fun _ K33=>AG<|A4 fun _ K34=>A2 (AO j I I Bw DD (hA:=hkO.2) (hi:=by omega)) I ?_
    refine A2 (BG (f:=C9) (i:=j) (y:=y) I EE (hA:=hkO.2) (hl:=hy)) I ?_
    refine AB (AZ I9) I I I ?_
    rintro _ _ ⟨b12,rfl,rfl⟩
    refine AX (AV (ys:=C9 y) I I DD (hv:=I) (h1:=encLs.one y) (hr:=I)) I I ?_
    rintro _ _ rfl
    refine A3 K34<|AD<|wM I I<|A2 (A1 I Cf) I<|A2 (A6 I BX (v:=.int .u32 ((y.1.toNat:Nat):Int))) I<|A2 (A1 I Bm) I<|A2 (A6 I BF (v:=.int .i64 y.2)) I<|AX (F5 (vf:=DY) y.2 IT I I I EW) I I ?_
    rintro _ _ rfl
    refine Dl (Bs m74 Dn DY (EQ y.1 y.2 (k.ls.l.take j))) (Bs m74 Dn DY (k.ls.l.take (j+1))) (EH (Iu hy hlok.1)) ?_
    refine AW<|A5 K33<|AD<|A2 (AN (j:=1) I I) I<|wM I I<|AW<|Av (K30 (j+1) (by omega) (by omega))
   try simp only [dz] at hc3
   obtain rfl:j=k.ls.l.length:=by omega
   rw [List.take_length]
   refine Aj<|A5 K28<|A7 fun _ K35=>BC CE [cl s16 90 [.bool true,.int .i64 room,.int .i64 tick,.int .i64 (((Ap L):Nat):Int),.map (some m16)],cl b9 94 (Dt k.kp.key),cl b8 83 (EC k),X] (fun i=>([2,2,2,2,2,2,2,1,2,2,1,1]:List Nat).getD i 0) ?_
   refine jM 0 I I I hp<|jP 1 I (A9 I) I hp<|jP 2 I (A1 I De) I hp<|jT 3 I (A6 I Fg (v:=.map (some m16))) I hp AQ<|jT 4 I (AI (vs:=Dt k.kp.key) I Ff (hl:=by rw [Aw];omega) (hi:=by rw [List.drop_zero];exact List.take_of_length_le (Nat.le_of_eq (Aw k.kp.key)))) I hp AQ ?_
   refine jP 5 I (A1 I C4) I hp<|jT 6 I (A6 I Bg (v:=k.b.v) (hi:=GL k)) I hp AQ<|jM 8 I I I hp<|jO 7<|B7 I (AE NL I (hs:=Ef (X:=X) (l:=k.b.l) (hS:=hkO.1) (by omega))) I I I I ?_
   rintro _ _ ⟨⟨a95,cap95⟩,rfl,hA⟩
   simp only [ca] at hA
   subst hA
   refine⟨(fun _=>AQ),?_⟩
   refine jP 9 I (Ah JZ I) I hp<|jO 10<|B7 I (Ay (xs:= [sl a95 k.b.l.length cap95,.map (some m74)]) I I) I I I I ?_
   rintro _ _ ⟨p98,rfl,rfl⟩
   refine⟨(fun _=>AQ),?_⟩
   refine jO 11<|Cg I (F5 (vf:=Cc) p98 G9 I I I FZ) I I I ?_
   rintro _ _ rfl
   refine⟨(fun _=>AQ),?_⟩
   refine jD<|A5 K35<|A7 fun _ K36=>Am CE (jz [10] 11) ?_
   refine jM 0 I I I hp<|jP 1 I (A9 I) I hp<|jP 2 I (A1 I Df) I hp<|jT 3 I (A6 I BF (v:=.int .i64 (((Ap L):Nat):Int))) I hp AQ<|jP 4 I (A1 I C4) I hp<|jT 5 I (A6 I Bg (v:=k.b.v) (hi:=GL k)) I hp AQ<|jP 6 I (Al I I BQ (hA:=hkO.1)) I hp ?_
   refine jP 7 I (AN I I) I hp<|jP 8 I (A9 I) I hp<|jP 9 I (A1 I Df) I hp<|jO 10<|EN I (Ar I I Fw) I ?_
   rintro _ _ rfl
   refine jD<|A5 K36<|A7 fun _ K37=>Am CE (fun _=>2) ?_
   refine jM 0 I I I hp<|jP 1 I (A9 I) I hp<|jP 2 I (A1 I Df) I hp<|jT 3 I (A6 I BF (v:=.int .i64 (((Ap L+k.b.l.length):Nat):Int))) I hp AQ<|jM 4 I I I hp<|jP 5 I (A9 I) I hp<|jP 6 I (A1 I Jh) I hp<|jT 7 I (A6 I BF) I hp AQ ?_
   refine jP 8 I (DI I I) I hp ?_
   refine jD<|A5 K37<|AH I (fun hc4=>?_) (fun hc4=>?_)
   ·try simp only [dz] at hc4
    refine A4 fun _ K38=>wA I I<|wA I I<|A3 K38<|AK ?_
    exact hret.go () (OV rfl rfl rfl)
   try simp only [dz] at hc4
   refine AA<|A5 K13<|AD<|Dl (Bs m16 By Cc (EQ k.kp.key p98 (L.map En.kp))) (Bs m16 By Cc ((L++ [(⟨k.kp,p98,a95,cap95,m74⟩:En)]).map En.kp)) (EH (Jy hkn)) ?_
   refine I1 102 5 k p98 a95 cap95 m74 L ?_
   rw [<-Iv hkP,show Ap L+k.b.l.length=Ap (L++ [(⟨k.kp,p98,a95,cap95,m74⟩:En)]) from by rw [Cs];rfl]
   refine A2 (AN (j:=1) I I) I<|wM I I<|AW<|Av (K10 ⟨i+1,L++ [(⟨k.kp,p98,a95,cap95,m74⟩:En)]⟩ (⟨by (try dsimp only);omega,by(try dsimp only);rw [List.map_append,hLm,BZ hkP];rfl,Lr hkP hpw (ML hnum hlenb hlok) hpre (by rw [<-hLm,<-Ei];show ((Ap L+k.b.l.length:Nat):Int)<=room;omega)⟩) (by (try dsimp only);omega))
  try simp only [dz] at hg24
  refine wK I<|wK I<|wK I<|wK I<|A2 (A8 I I) I<|A2 (A8 I I) I<|A3 K17<|AM I ?_
  have hpre:i=0\/ ∃y,(kvs.map KV.kp)[i -1]? =some y/\Eh y.key k.kp.key:=by first|exact .inl (by omega)|exact .inr (Ln hkP (by omega) (M9 (by omega)))
  have hkn:k.kp.key ∉ (L.map En.e).map Kp.key:=by rw [hLm];exact M1 hkP (Ho (r:=fun a b:Kp=>Eh a.key b.key) (fun a b=>HG a b) hkP hpw.srt hpre)
  have huL:((Ap L:Nat):Int)<=room:=by rw [Ei,hLm];exact hpw.used
  refine AA<|A5 K16<|A4 fun _ K39=>A2 (AI (vs:=Dt k.kp.key) I Ff (hl:=by rw [Aw];omega) (hi:=by rw [List.drop_zero];exact List.take_of_length_le (Nat.le_of_eq (Aw k.kp.key)))) I ?_
  refine AX (AV (ys:=Dt k.kp.key) I I Hk (hl:=by rw [Aw];exact Nat.le_refl _) (h1:=encK.one _) (hv:=by simpa [Value.cells,By] using Aw k.kp.key) (hr:=by simp [Value.cells,By,Aw])) I I ?_
  rintro _ _ rfl
  refine A3 K39<|A4 fun _ K40=>AB (FY Dn DY) I I I ?_
  rintro _ _ ⟨m74,rfl,rfl⟩
  refine wA I I<|A3 K40<|A7 fun _ K41=>A4 fun _ K42=>A2 (A1 I Ca) I<|A2 (A6 I EP (v:=k.ls.v) (hi:=GE k)) I<|A2 (Al I I Bw (hA:=hkO.2)) I ?_
  refine wM I I<|A3 K42<|AG ?_
  rw [show Bs m74 Dn DY []=Bs m74 Dn DY (k.ls.l.take 0) from rfl]
  refine Ak (σ:=Nat) (fun j=> [(78,.int .i64 ((j:Nat):Int))]) (fun j=> [Bs m74 Dn DY (k.ls.l.take j)]) (fun j=>j<=k.ls.l.length) (fun j=>k.ls.l.length -j) (0) [1,2,3,4,6,7,8,9,10,33,34,35,36,37,38,39,40,41,42,43,44,45,46,47,48,49,50,51,52,53,54,55,56,57,58,59,60,61,62,63,64,65,66,67,68,69,70,71,72,73,74,75,76,77,88,89,90,91,92,93,94,95,96,97,98,99,100,101,102,103,104,105,106,107,108,109,110,111,112,113,114,115,116,117,118,119] Cw D8 ?_ ?_ Sub.refl ?_
  ·exact Nat.zero_le _
  ·(try dsimp only);exact(Wk.cons Ch Wk.nil)
  rintro j hj K43 K43
  simp only [List.cons_append,List.nil_append]
  refine A4 fun _ K44=>A2 (An I I) I<|A3 K44<|A7 fun _ K45=>AH I (fun hc3=>?_) (fun hc3=>?_)
  ·try simp only [dz] at hc3
   obtain⟨y,hy⟩: ∃y,k.ls.l[j]? =some y:=⟨_,List.getElem?_eq_getElem (by omega)⟩
   refine AA<|A5 K45<|A7 fun _ K46=>AG<|A4 fun _ K47=>A2 (AO j I I Bw DD (hA:=hkO.2) (hi:=by omega)) I ?_
   refine A2 (BG (f:=C9) (i:=j) (y:=y) I EE (hA:=hkO.2) (hl:=hy)) I ?_
   refine AB (AZ I9) I I I ?_
   rintro _ _ ⟨b12,rfl,rfl⟩
   refine AX (AV (ys:=C9 y) I I DD (hv:=I) (h1:=encLs.one y) (hr:=I)) I I ?_
   rintro _ _ rfl
   refine A3 K47<|AD<|wM I I<|A2 (A1 I Cf) I<|A2 (A6 I BX (v:=.int .u32 ((y.1.toNat:Nat):Int))) I<|A2 (A1 I Bm) I<|A2 (A6 I BF (v:=.int .i64 y.2)) I<|AX (F5 (vf:=DY) y.2 IT I I I EW) I I ?_
   rintro _ _ rfl
   refine Dl (Bs m74 Dn DY (EQ y.1 y.2 (k.ls.l.take j))) (Bs m74 Dn DY (k.ls.l.take (j+1))) (EH (Iu hy hlok.1)) ?_
   refine AW<|A5 K46<|AD<|A2 (AN (j:=1) I I) I<|wM I I<|AW<|Av (K43 (j+1) (by omega) (by omega))
  try simp only [dz] at hc3
  obtain rfl:j=k.ls.l.length:=by omega
  rw [List.take_length]
  refine Aj<|A5 K41<|A7 fun _ K48=>BC CE [cl s16 90 [.bool true,.int .i64 room,.int .i64 tick,.int .i64 (((Ap L):Nat):Int),.map (some m16)],cl b9 94 (Dt k.kp.key),cl b8 83 (EC k),X] (fun i=>([2,2,2,2,2,2,2,1,2,2,1,1]:List Nat).getD i 0) ?_
  refine jM 0 I I I hp<|jP 1 I (A9 I) I hp<|jP 2 I (A1 I De) I hp<|jT 3 I (A6 I Fg (v:=.map (some m16))) I hp AQ<|jT 4 I (AI (vs:=Dt k.kp.key) I Ff (hl:=by rw [Aw];omega) (hi:=by rw [List.drop_zero];exact List.take_of_length_le (Nat.le_of_eq (Aw k.kp.key)))) I hp AQ ?_
  refine jP 5 I (A1 I C4) I hp<|jT 6 I (A6 I Bg (v:=k.b.v) (hi:=GL k)) I hp AQ<|jM 8 I I I hp<|jO 7<|B7 I (AE NL I (hs:=Ef (X:=X) (l:=k.b.l) (hS:=hkO.1) (by omega))) I I I I ?_
  rintro _ _ ⟨⟨a95,cap95⟩,rfl,hA⟩
  simp only [ca] at hA
  subst hA
  refine⟨(fun _=>AQ),?_⟩
  refine jP 9 I (Ah JZ I) I hp<|jO 10<|B7 I (Ay (xs:= [sl a95 k.b.l.length cap95,.map (some m74)]) I I) I I I I ?_
  rintro _ _ ⟨p98,rfl,rfl⟩
  refine⟨(fun _=>AQ),?_⟩
  refine jO 11<|Cg I (F5 (vf:=Cc) p98 G9 I I I FZ) I I I ?_
  rintro _ _ rfl
  refine⟨(fun _=>AQ),?_⟩
  refine jD<|A5 K48<|A7 fun _ K49=>Am CE (jz [10] 11) ?_
  refine jM 0 I I I hp<|jP 1 I (A9 I) I hp<|jP 2 I (A1 I Df) I hp<|jT 3 I (A6 I BF (v:=.int .i64 (((Ap L):Nat):Int))) I hp AQ<|jP 4 I (A1 I C4) I hp<|jT 5 I (A6 I Bg (v:=k.b.v) (hi:=GL k)) I hp AQ<|jP 6 I (Al I I BQ (hA:=hkO.1)) I hp ?_
  refine jP 7 I (AN I I) I hp<|jP 8 I (A9 I) I hp<|jP 9 I (A1 I Df) I hp<|jO 10<|EN I (Ar I I Fw) I ?_
  rintro _ _ rfl
  refine jD<|A5 K49<|A7 fun _ K50=>Am CE (fun _=>2) ?_
  refine jM 0 I I I hp<|jP 1 I (A9 I) I hp<|jP 2 I (A1 I Df) I hp<|jT 3 I (A6 I BF (v:=.int .i64 (((Ap L+k.b.l.length):Nat):Int))) I hp AQ<|jM 4 I I I hp<|jP 5 I (A9 I) I hp<|jP 6 I (A1 I Jh) I hp<|jT 7 I (A6 I BF) I hp AQ ?_
  refine jP 8 I (DI I I) I hp ?_
  refine jD<|A5 K50<|AH I (fun hc4=>?_) (fun hc4=>?_)
  ·try simp only [dz] at hc4
   refine A4 fun _ K51=>wA I I<|wA I I<|A3 K51<|AK ?_
   exact hret.go () (OV rfl rfl rfl)
  try simp only [dz] at hc4
  refine AA<|A5 K13<|AD<|Dl (Bs m16 By Cc (EQ k.kp.key p98 (L.map En.kp))) (Bs m16 By Cc ((L++ [(⟨k.kp,p98,a95,cap95,m74⟩:En)]).map En.kp)) (EH (Jy hkn)) ?_
  refine I1 102 5 k p98 a95 cap95 m74 L ?_
  rw [<-Iv hkP,show Ap L+k.b.l.length=Ap (L++ [(⟨k.kp,p98,a95,cap95,m74⟩:En)]) from by rw [Cs];rfl]
  refine A2 (AN (j:=1) I I) I<|wM I I<|AW<|Av (K10 ⟨i+1,L++ [(⟨k.kp,p98,a95,cap95,m74⟩:En)]⟩ (⟨by (try dsimp only);omega,by(try dsimp only);rw [List.map_append,hLm,BZ hkP];rfl,Lr hkP hpw (ML hnum hlenb hlok) hpre (by rw [<-hLm,<-Ei];show ((Ap L+k.b.l.length:Nat):Int)<=room;omega)⟩) (by (try dsimp only);omega))
 try simp only [dz] at hc1
 exact absurd (show Wf room ⟨tick,(kvs.map KV.kp)⟩ by have q:=hpw;rw [List.take_of_length_le (by omega)] at q;exact q) hno
end Go.Proofs.YtoakfknnaiapiaaGreat
