/-
  Contracts of functions that the claim reaches, or the logic and the plain laws that they rest on, or the row over them. (Conditions: none beyond the statement.)
-/
import Derived.Test.YtoakfknnaiapiaaGreatKAK
set_option linter.all false
namespace Go.Proofs.YtoakfknnaiapiaaGreat
open Go.RowKit Go.SL Go.ShM Go.SvM
set_option maxHeartbeats 1000000
set_option maxRecDepth 20000
set_option linter.all false
theorem Y9:DF Tryz.prog 31=true:=by kernel_rfl
theorem fg:DF Tryz.prog 49=true:=by kernel_rfl
theorem e5:DF Tryz.prog 50=true:=by kernel_rfl
theorem Me{X:Ao}{v v':Value}{l l':List B8}{ao ao':Option Addr}{cap cap':Nat}(hS:Sv [X] v 1 (eU .u8 (w:=8)) l ao cap:=by assumption)(hS':Sv [X] v' 1 (eU .u8 (w:=8)) l' ao' cap':=by assumption)(hl:l.length<=900000000000:=by omega):Ct Tryz.prog 91 [v,v'] [X] (fun _:Unit=>.bool (decide (l=l'))) (fun _=> [X]):=by
 refine AY (n:=26) Tryz.func91 I I I fun F w0 Q hret hnorm hp=>?_
 change WC _ _ _ _ _ _ _ (_::F)
 refine A4 fun _ K1=>wA I I<|A3 K1<|A7 fun _ K2=>A4 fun _ K3=>wM I I<|A2 (Al I I BQ) I ?_
 refine wM I I<|A2 (Al I I BQ) I ?_
 refine A2 (Bj I I) I ?_
 refine A3 K3<|AH I (fun hc0=>?_) (fun hc0=>?_)
 ·try simp only [dz] at hc0
  refine A4 fun _ K4=>wA I I<|A3 K4<|AK ?_
  first|exact hret.goE () (BR rfl rfl) (bF (G7 hc0))|exact hret.goE () (BR rfl rfl) (bF (I7 (z:=0#8) hc2))|exact hret.goE () (BR rfl rfl) (bT (F2 hi.2 (by omega)))
 try simp only [dz] at hc0
 refine AA<|A5 K2<|A7 fun _ K5=>A4 fun _ K6=>wA I I<|A3 K6<|AG<|Ak (σ:=Nat) (fun i'=> [(5,.int .i64 ((i':Nat):Int))]) (fun i'=> []) (fun i'=>i'<=l.length/\l.take i'=l'.take i') (fun i'=>l.length -i') (0) [0,1] Cw D8 ?_ ?_ Sub.refl ?_
 ·exact⟨Nat.zero_le _,rfl⟩
 ·(try dsimp only);exact(Wk.cons Ch Wk.nil)
 rintro i' hi K7 K7
 simp only [List.cons_append,List.nil_append]
 refine A7 fun _ K8=>A4 fun _ K9=>wM I I<|wM I I<|A2 (Al I I BQ) I ?_
 refine A2 (An I I) I<|A3 K9<|AH I (fun hc1=>?_) (fun hc1=>?_)
 ·try simp only [dz] at hc1
  refine AA<|A5 K8<|A7 fun _ K10=>AG<|A7 fun _ K11=>Am CE (fun _=>2) ?_
  refine jM 0 I I I hp<|jM 1 I I I hp<|jP 2 I (AO i' I I BQ Ki (hA:=hS) (hi:=by omega)) I hp ?_
  refine jT 3 I (Af (i:=i') (j:=0) I Vq (hA:=hS) (hl:=Pd (z:=0#8) (by omega))) I hp AQ ?_
  refine jM 4 I I I hp<|jM 5 I I I hp<|jP 6 I (AO i' I I BQ Ki (hA:=hS') (hi:=by omega)) I hp ?_
  refine jT 7 I (Af (i:=i') (j:=0) I Vq (hA:=hS') (hl:=Pd (z:=0#8) (by omega))) I hp AQ ?_
  refine jP 8 I (GZ I I) I hp ?_
  refine jD<|A5 K11<|AH I (fun hc2=>?_) (fun hc2=>?_)
  ·try simp only [dz] at hc2
   refine A4 fun _ K12=>wA I I<|A3 K12<|AK ?_
   first|exact hret.goE () (BR rfl rfl) (bF (G7 hc0))|exact hret.goE () (BR rfl rfl) (bF (I7 (z:=0#8) hc2))|exact hret.goE () (BR rfl rfl) (bT (F2 hi.2 (by omega)))
  try simp only [dz] at hc2
  refine AA<|A5 K10<|AD<|wM I I<|A2 (AN (j:=1) I I) I<|wA I I<|AW<|Az (K7 (i'+1) (⟨by omega,Ir (z:=0#8) hi.2 (by omega) (by omega) hc2⟩) (by omega))
 try simp only [dz] at hc1
 obtain rfl:i'=l.length:=by omega
 refine Aj<|A5 K5<|A4 fun _ K13=>wA I I<|A3 K13<|AK ?_
 first|exact hret.goE () (BR rfl rfl) (bF (G7 hc0))|exact hret.goE () (BR rfl rfl) (bF (I7 (z:=0#8) hc2))|exact hret.goE () (BR rfl rfl) (bT (F2 hi.2 (by omega)))

theorem JQ{X:Ao}{v:Value}{l:List Ls}{ao:Option Addr}{cap:Nat}{t:Int}(hS:Sv [X] v 2 C9 l ao cap:=by assumption)(hl:l.length<=900000000000:=by omega):Ct Tryz.prog 49 [v,.int .i64 t] [X] (fun _:Unit=>.bool (decide (Dk t l))) (fun _=> [X]):=by
 refine AY (n:=53) Tryz.func49 I I I fun F w0 Q hret hnorm hp=>?_
 change WC _ _ _ _ _ _ _ (_::F)
 refine A4 fun _ K1=>wA I I<|A3 K1<|A7 fun _ K2=>A4 fun _ K3=>wA I I<|A3 K3<|AG<|Ak (σ:=Nat) (fun i=> [(5,.int .i64 ((i:Nat):Int))]) (fun i=> []) (fun i=>i<=l.length/\SrtW (l.take i)/\(∀y∈l.take i,t<=y.2/\y.2<=1099511627776)) (fun i=>l.length -i) (0) [0,1,45,46,47,48,49,50,51,52] Cw D8 ?_ ?_ Sub.refl ?_
 ·exact⟨Nat.zero_le _,List.Pairwise.nil,fun y h=>(List.not_mem_nil h).elim⟩
 ·(try dsimp only);exact(Wk.cons Ch Wk.nil)
 rintro i ⟨hi,hss,hbb⟩ K4 K4
 simp only [List.cons_append,List.nil_append]
 refine A7 fun _ K5=>A4 fun _ K6=>wM I I<|wM I I<|A2 (Al I I Bw) I ?_
 refine A2 (An I I) I<|A3 K6<|AH I (fun hc0=>?_) (fun hc0=>?_)
 ·try simp only [dz] at hc0
  obtain⟨y,hy⟩: ∃y,l[i]? =some y:=⟨_,List.getElem?_eq_getElem (by omega)⟩
  refine AA<|A5 K5<|A7 fun _ K7=>AG<|A7 fun _ K8=>BC CE [X] (fun _=>2) ?_
  refine jM 0 I I I hp<|jM 1 I I I hp<|jP 2 I (AO i I I Bw DD (hA:=hS) (hi:=by omega)) I hp ?_
  refine jP 3 I (A1 I Bm) I hp<|jT 4 I (Af (f:=C9) (i:=i) (j:=1) (y:=y) I BF (hA:=hS) (hl:=hy) (hv:=I)) I hp AQ ?_
  refine jM 5 I I I hp<|jP 6 I (Bt I I) I hp<|jM 7 I I I hp<|Be 19 I (fun hg9=>?_) (fun hg9=>?_)
  ·try simp only [dz] at hg9
   refine jK 8 I I hp<|jK 9 I I hp<|jK 10 I I hp<|jK 11 I I hp<|jK 12 I I hp<|jK 13 I I hp<|jP 14 I (AC I I) I hp<|jM 15 I I I hp<|jK 16 I I hp<|jK 17 I I hp<|jK 18 I I hp<|jK 19 I I hp<|jK 20 I I hp<|jK 21 I I hp<|jK 22 I I hp ?_
   refine jK 23 I I hp<|jK 24 I I hp<|jK 25 I I hp<|jK 26 I I hp<|jK 27 I I hp<|jK 28 I I hp<|jK 29 I I hp<|jK 30 I I hp<|jK 31 I I hp<|jP 32 I (AC I I) I hp<|jD<|A5 K8<|Ad I<|A4 fun _ K10=>wA I I ?_
   refine A3 K10<|AK ?_
   first|exact hret.goE () (BR rfl rfl) (bF (HF hy (by omega)))|exact hret.goE () (BR rfl rfl) (bF (HE (by omega) hy hz (by omega)))|exact hret.goE () (BR rfl rfl) (JO (by omega))|exact hret.goE () (BR rfl rfl) (JP hss hbb (by omega) (by omega))
  try simp only [dz] at hg9
  refine jM 8 I I I hp<|jM 9 I I I hp<|jP 10 I (AO i I I Bw DD (hA:=hS) (hi:=by omega)) I hp ?_
  refine jP 11 I (A1 I Bm) I hp<|jT 12 I (Af (f:=C9) (i:=i) (j:=1) (y:=y) I BF (hA:=hS) (hl:=hy) (hv:=I)) I hp AQ ?_
  refine jP 13 I (DI I I) I hp ?_
  refine jP 14 I (A8 I I) I hp<|jM 15 I I I hp<|Be 27 I (fun hg11=>?_) (fun hg11=>?_)
  ·try simp only [dz] at hg11
   refine jK 16 I I hp<|jK 17 I I hp<|jK 18 I I hp<|jK 19 I I hp<|jK 20 I I hp<|jK 21 I I hp<|jK 22 I I hp<|jK 23 I I hp<|jK 24 I I hp<|jK 25 I I hp<|jK 26 I I hp<|jK 27 I I hp<|jK 28 I I hp<|jK 29 I I hp<|jK 30 I I hp ?_
   refine jK 31 I I hp<|jP 32 I (AC I I) I hp<|jD<|A5 K8<|Ad I<|A4 fun _ K12=>wA I I<|A3 K12<|AK ?_
   first|exact hret.goE () (BR rfl rfl) (bF (HF hy (by omega)))|exact hret.goE () (BR rfl rfl) (bF (HE (by omega) hy hz (by omega)))|exact hret.goE () (BR rfl rfl) (JO (by omega))|exact hret.goE () (BR rfl rfl) (JP hss hbb (by omega) (by omega))
  try simp only [dz] at hg11
  refine jM 16 I I I hp<|jP 17 I (Bz (j:=0) I I) I hp ?_
  refine jM 18 I I I hp<|Be 30 I (fun hg13=>?_) (fun hg13=>?_)
  ·try simp only [dz] at hg13
   obtain⟨z,hz⟩: ∃z,l[i -1]? =some z:=⟨_,List.getElem?_eq_getElem (by omega)⟩
   refine jM 19 I I I hp<|jM 20 I I I hp<|jP 21 I (AO i I I Bw DD (hA:=hS) (hi:=by omega)) I hp ?_
   refine jP 22 I (A1 I Cf) I hp<|jT 23 I (Af (f:=C9) (i:=i) (j:=0) (y:=y) I BX (hA:=hS) (hl:=hy) (hv:=I)) I hp AQ ?_
   refine jM 24 I I I hp<|jM 25 I I I hp<|jP 26 I (Ax (j:=1) I I) I hp<|jP 27 I (AO (i -1) I I Bw DD (hA:=hS) (hj:=by omega) (hi:=by omega)) I hp ?_
   refine jP 28 I (A1 I Cf) I hp<|jT 29 I (Af (f:=C9) (i:=(i -1)) (j:=0) (y:=z) I BX (hA:=hS) (hl:=hz) (hv:=I)) I hp AQ ?_
   refine jP 30 I (D5 I I) I hp ?_
   refine jP 31 I (AC I I) I hp<|jP 32 I (A8 I I) I hp<|jD<|A5 K8<|AH I (fun hc1=>?_) (fun hc1=>?_)
   ·try simp only [dz] at hc1
    refine A4 fun _ K14=>wA I I<|A3 K14<|AK ?_
    first|exact hret.goE () (BR rfl rfl) (bF (HF hy (by omega)))|exact hret.goE () (BR rfl rfl) (bF (HE (by omega) hy hz (by omega)))|exact hret.goE () (BR rfl rfl) (JO (by omega))|exact hret.goE () (BR rfl rfl) (JP hss hbb (by omega) (by omega))
   try simp only [dz] at hc1
   refine AA<|A5 K7<|AD<|wM I I<|A2 (AN (j:=1) I I) I<|wA I I<|AW<|Az (K4 (i+1) (by first|exact⟨by omega,H5 hy hss hbb (by omega) (.inl (by omega))⟩|exact⟨by omega,H5 hy hss hbb (by omega) (.inr ⟨z,hz,by omega⟩)⟩) (by omega))
  try simp only [dz] at hg13
  refine jK 19 I I hp<|jK 20 I I hp<|jK 21 I I hp<|jK 22 I I hp<|jK 23 I I hp<|jK 24 I I hp<|jK 25 I I hp<|jK 26 I I hp<|jK 27 I I hp<|jK 28 I I hp<|jK 29 I I hp<|jK 30 I I hp<|jP 31 I (A8 I I) I hp<|jP 32 I (A8 I I) I hp<|jD ?_
  refine A5 K8<|AM I<|AA<|A5 K7<|AD<|wM I I<|A2 (AN (j:=1) I I) I<|wA I I<|AW<|Az (K4 (i+1) (by first|exact⟨by omega,H5 hy hss hbb (by omega) (.inl (by omega))⟩|exact⟨by omega,H5 hy hss hbb (by omega) (.inr ⟨z,hz,by omega⟩)⟩) (by omega))
 try simp only [dz] at hc0
 obtain rfl:i=l.length:=by omega
 rw [List.take_length] at hss hbb
 refine Aj<|A5 K2<|A4 fun _ K15=>wM I I<|A2 (Al I I Bw) I ?_
 refine A2 (Bl (j:=1) I I) I ?_
 refine wM I I<|Ae 48 I (fun hg16=>?_) (fun hg16=>?_)
 ·try simp only [dz] at hg16
  refine wM I I<|A2 (Al I I Bw) I ?_
  refine A2 (D5 (j:=64) I I) I ?_
  refine A2 (AC I I) I<|wA I I<|A3 K15<|AK ?_
  first|exact hret.goE () (BR rfl rfl) (bF (HF hy (by omega)))|exact hret.goE () (BR rfl rfl) (bF (HE (by omega) hy hz (by omega)))|exact hret.goE () (BR rfl rfl) (JO (by omega))|exact hret.goE () (BR rfl rfl) (JP hss hbb (by omega) (by omega))
 try simp only [dz] at hg16
 refine wK I<|wK I<|wK I<|A2 (A8 I I) I<|wA I I<|A3 K15<|AK ?_
 first|exact hret.goE () (BR rfl rfl) (bF (HF hy (by omega)))|exact hret.goE () (BR rfl rfl) (bF (HE (by omega) hy hz (by omega)))|exact hret.goE () (BR rfl rfl) (JO (by omega))|exact hret.goE () (BR rfl rfl) (JP hss hbb (by omega) (by omega))

structure WfP (room tick:Int) (l:List Kp) (i:Nat):Prop where
 rm:0<=room/\room<=1073741824
 tk:0<=tick/\tick<=1099511627776
 srt:SrtK (l.take i)
 all: ∀e∈l.take i,WfK tick e
theorem gJ{room tick:Int}{l:List Kp}(h1:0<=room/\room<=1073741824)(h2:0<=tick/\tick<=1099511627776):WfP room tick l 0:=⟨h1,h2,List.Pairwise.nil,fun e h=>(List.not_mem_nil h).elim⟩
theorem cF{room tick:Int}{l:List Kp}{i:Nat}{e:Kp}(h:WfP room tick l i)(hx:l[i]? =some e)(h1:0<=e.num/\e.num<255)(h2:e.b.length<=33554432)(h3:Dk tick e.ls)(h4:i=0\/ ∃y,l[i -1]? =some y/\Eh y.key e.key):WfP room tick l (i+1):=
 ⟨h.rm,h.tk,Ho (r:=fun a b:Kp=>Eh a.key b.key) (fun a b=>HG a b) hx h.srt h4,fun y hy=>by
  rw [BZ hx,List.mem_append,List.mem_singleton] at hy
  rcases hy with hy|rfl
  ·exact h.all y hy
  ·exact ML h1 h2 h3⟩
theorem gI{room tick:Int}{l:List Kp}{i:Nat}(h:WfP room tick l i)(hi:l.length<=i)(q:((C0 l:Nat):Int)<=room):Wf room ⟨tick,l⟩:=by
 have h1:=h.srt
 have h2:=h.all
 rw [List.take_of_length_le hi] at h1 h2
 exact Wf.of h.rm h.tk h1 h2 q

theorem Og{X:Ao}{v:Value}{kvs:List KV}{ao:Option Addr}{cap:Nat}{room tick:Int}(hV:Sv [X] v 19 EC kvs ao cap)(hOK: ∀k∈kvs,Lh X k)(hn:kvs.length<=100000000)(hlb: ∀k∈kvs,k.ls.l.length<=900000000000)(hu:C0 (kvs.map KV.kp)<=4000000000000)(hwf:Wf room ⟨tick,kvs.map KV.kp⟩):Ct Tryz.prog 17 [.agg ([.int .i64 room,.int .i64 tick,v]:List Value).toArray] [X] (fun _:Unit=>.bool true) (fun _=> [X]):=by
 refine AY (n:=76) Tryz.func17 I I I fun F w0 Q hret hnorm hp=>?_
 change WC _ _ _ _ _ _ _ (_::F)
 have hpl:(kvs.map KV.kp).length=kvs.length:=List.length_map _
 have hrm:=hwf.rm
 have htk:=hwf.tk
 dsimp only at htk
 refine A4 fun _ K1=>AB (Ay (xs:= [.int .i64 room,.int .i64 tick,v]) I I) I I I ?_
 rintro _ _ ⟨b1,rfl,rfl⟩
 refine wA I I<|A3 K1<|A7 fun _ K2=>A4 fun _ K3=>A2 (A1 I Dx) I<|A2 (A6 I BF) I ?_
 first|refine As (An (j:=0) rfl rfl) rfl rfl rfl ?_|refine As (Bt rfl rfl) rfl rfl rfl ?_
 refine wM I I<|Ae 8 I (fun hg4=>?_) (fun hg4=>?_)
 ·try simp only [dz] at hg4
  refine wK I<|wK I<|wK I<|A2 (AC I I) I<|wM I I<|wK I<|wK I<|wK I<|A2 (AC I I) I<|wM I I<|wK I<|wK I<|wK I<|A2 (AC I I) I<|A3 K3 ?_
  refine Ad I ?_
  omega
 try simp only [dz] at hg4
 refine A2 (A1 I Dx) I<|A2 (A6 I BF) I ?_
 first|refine As (Bz (j:=1073741824) rfl rfl) rfl rfl rfl ?_|refine As (DI rfl rfl) rfl rfl rfl ?_
 refine A2 (A8 I I) I<|wM I I<|Ae 13 I (fun hg5=>?_) (fun hg5=>?_)
 ·try simp only [dz] at hg5
  refine wK I<|wK I<|wK I<|A2 (AC I I) I<|wM I I<|wK I<|wK I<|wK I<|A2 (AC I I) I<|A3 K3<|Ad I ?_
  omega
 try simp only [dz] at hg5
 refine A2 (A1 I Di) I<|A2 (A6 I BF) I ?_
 first|refine As (An (j:=0) rfl rfl) rfl rfl rfl ?_|refine As (Bt rfl rfl) rfl rfl rfl ?_
 refine A2 (A8 I I) I<|wM I I<|Ae 18 I (fun hg6=>?_) (fun hg6=>?_)
 ·try simp only [dz] at hg6
  refine wK I<|wK I<|wK I<|A2 (AC I I) I<|A3 K3<|Ad I ?_
  omega
 try simp only [dz] at hg6
 refine A2 (A1 I Di) I<|A2 (A6 I BF) I ?_
 first|refine As (Bz (j:=1099511627776) rfl rfl) rfl rfl rfl ?_|refine As (DI rfl rfl) rfl rfl rfl ?_
 refine A2 (A8 I I) I<|A3 K3<|AH I (fun hc0=>?_) (fun hc0=>?_)
 ·try simp only [dz] at hc0
  omega
 try simp only [dz] at hc0
 refine AA<|A5 K2<|A7 fun _ K7=>A4 fun _ K8=>wA I I<|A3 K8<|AG<|Ak (σ:=Nat) (fun i=> [(3,.int .i64 ((i:Nat):Int))]) (fun i=> []) (fun i=>i<=kvs.length) (fun i=>kvs.length -i) (0) [1,72,73,74,75] Cw D8 ?_ ?_ Sub.refl ?_
 ·exact Nat.zero_le _
 ·(try dsimp only);exact(Wk.cons Ch Wk.nil)
 rintro i hi K9 K9
 simp only [List.cons_append,List.nil_append]
 refine A7 fun _ K10=>A4 fun _ K11=>wM I I<|A2 (A1 I BB) I<|A2 (A6 I CL (v:=v)) I<|A2 (Al I I BV (hA:=hV)) I ?_
 refine A2 (An I I) I<|A3 K11<|AH I (fun hc1=>?_) (fun hc1=>?_)
 ·try simp only [dz] at hc1
  obtain⟨k,hk⟩: ∃k,kvs[i]? =some k:=⟨_,List.getElem?_eq_getElem (by omega)⟩
  have hkP:=LV hk
  have hkO:=hOK k (List.mem_of_getElem? hk)
  have hkl:=hlb k (List.mem_of_getElem? hk)
  obtain⟨hwk,hwp,hwu⟩:=bO hwf hkP
  have hw1:0<=k.num/\k.num<255:=hwk.num
  have hw2:k.b.l.length<=33554432:=hwk.len
  have hw3:Dk tick k.ls.l:=hwk.ok
  have hw4: ∀z,0<i ->kvs[i -1]? =some z ->Eh z.kp.key k.kp.key:=fun z h0 hz=>hwp.elim (fun q=>absurd q (by omega)) (fun ⟨y,q1,q2⟩=>by rw [LV hz] at q1;cases q1;exact q2)
  refine AA<|A5 K10<|A7 fun _ K12=>AG<|A4 fun _ K13=>A2 (A1 I BB) I<|A2 (A6 I CL (v:=v)) I<|wM I I<|A2 (AO i I I BV C6 (hA:=hV) (hi:=by omega)) I ?_
  refine A2 (BG (f:=EC) (i:=i) (y:=k) I EM (hA:=hV) (hl:=hk)) I ?_
  refine AB (AZ Ey) I I I ?_
  rintro _ _ ⟨b4,rfl,rfl⟩
  refine AX (AV (ys:=EC k) I I C6 (h1:=by simpa [Value.cells] using encKV.one k) (hv:=by simpa [Value.cells] using encKV.len k) (hr:=by simp [Value.cells])) I I ?_
  rintro _ _ rfl
  refine A3 K13<|A7 fun _ K14=>BC CE [cl b1 24 [.int .i64 room,.int .i64 tick,v],cl b4 83 (EC k),X] (fun i=>([2,2,2,2,2,2,2,2,2,2,2,2,2,2,2,2,2,2,2,1,2,2,2,2,2,2,2,2,2,2,2,2,2,1,2,2,2]:List Nat).getD i 0) ?_
  refine jP 0 I (A1 I E4) I hp<|jT 1 I (A6 I BF (v:=.int .i64 k.num) (hi:=ES k)) I hp AQ<|jP 2 I (Bt I I) I hp<|jM 3 I I I hp<|Be 38 I (fun hg15=>?_) (fun hg15=>?_)
  ·try simp only [dz] at hg15
   refine jK 4 I I hp<|jK 5 I I hp<|jK 6 I I hp<|jP 7 I (AC I I) I hp<|jM 8 I I I hp<|jK 9 I I hp<|jK 10 I I hp<|jK 11 I I hp<|jK 12 I I hp<|jP 13 I (AC I I) I hp<|jM 14 I I I hp<|jK 15 I I hp<|jK 16 I I hp<|jK 17 I I hp<|jK 18 I I hp ?_
   refine jO 19<|CN I I I I (fun _=>Bh) ?_
   refine jK 20 I I hp<|jP 21 I (AC I I) I hp<|jM 22 I I I hp<|jK 23 I I hp<|jK 24 I I hp<|jK 25 I I hp<|jK 26 I I hp<|jK 27 I I hp<|jK 28 I I hp<|jK 29 I I hp<|jK 30 I I hp<|jK 31 I I hp<|jK 32 I I hp<|jO 33<|CN I I I I (fun _=>Bh) ?_
   refine jK 34 I I hp<|jK 35 I I hp<|jP 36 I (AC I I) I hp<|jD<|A5 K14<|Ad I ?_
   exfalso
   first|omega|(exact absurd hw3 (by first|assumption|simp_all))|(exact absurd (hw4 z (by omega) hz) (by first|assumption|simp_all))
  try simp only [dz] at hg15
  refine jP 4 I (A1 I E4) I hp<|jT 5 I (A6 I BF (v:=.int .i64 k.num) (hi:=ES k)) I hp AQ<|jP 6 I (DI I I) I hp ?_
  refine jP 7 I (A8 I I) I hp<|jM 8 I I I hp<|Be 43 I (fun hg16=>?_) (fun hg16=>?_)
  ·try simp only [dz] at hg16
   refine jK 9 I I hp<|jK 10 I I hp<|jK 11 I I hp<|jK 12 I I hp<|jP 13 I (AC I I) I hp<|jM 14 I I I hp<|jK 15 I I hp<|jK 16 I I hp<|jK 17 I I hp<|jK 18 I I hp<|jO 19<|CN I I I I (fun _=>Bh) ?_
   refine jK 20 I I hp<|jP 21 I (AC I I) I hp<|jM 22 I I I hp<|jK 23 I I hp<|jK 24 I I hp<|jK 25 I I hp<|jK 26 I I hp<|jK 27 I I hp<|jK 28 I I hp<|jK 29 I I hp<|jK 30 I I hp<|jK 31 I I hp<|jK 32 I I hp<|jO 33<|CN I I I I (fun _=>Bh) ?_
   refine jK 34 I I hp<|jK 35 I I hp<|jP 36 I (AC I I) I hp<|jD<|A5 K14<|Ad I ?_
   exfalso
   first|omega|(exact absurd hw3 (by first|assumption|simp_all))|(exact absurd (hw4 z (by omega) hz) (by first|assumption|simp_all))
  try simp only [dz] at hg16
  refine jP 9 I (A1 I C4) I hp<|jT 10 I (A6 I Bg (v:=k.b.v) (hi:=GL k)) I hp AQ<|jP 11 I (AL (v:=.int .i64 ((k.b.l.length:Nat):Int)) (BA I I BQ) I) I hp<|jP 12 I (Bz (j:=33554432) I I) I hp ?_
  refine jP 13 I (A8 I I) I hp<|jM 14 I I I hp<|Be 49 I (fun hg17=>?_) (fun hg17=>?_)
  ·try simp only [dz] at hg17
   refine jK 15 I I hp<|jK 16 I I hp<|jK 17 I I hp<|jK 18 I I hp<|jO 19<|CN I I I I (fun _=>Bh) ?_
   refine jK 20 I I hp<|jP 21 I (AC I I) I hp<|jM 22 I I I hp<|jK 23 I I hp<|jK 24 I I hp<|jK 25 I I hp<|jK 26 I I hp<|jK 27 I I hp<|jK 28 I I hp<|jK 29 I I hp<|jK 30 I I hp<|jK 31 I I hp<|jK 32 I I hp<|jO 33<|CN I I I I (fun _=>Bh) ?_
   refine jK 34 I I hp<|jK 35 I I hp<|jP 36 I (AC I I) I hp<|jD<|A5 K14<|Ad I ?_
   exfalso
   first|omega|(exact absurd hw3 (by first|assumption|simp_all))|(exact absurd (hw4 z (by omega) hz) (by first|assumption|simp_all))
  try simp only [dz] at hg17
  refine jP 15 I (A1 I Ca) I hp<|jT 16 I (A6 I EP (v:=k.ls.v) (hi:=GE k)) I hp AQ<|jP 17 I (A1 I Di) I hp<|jT 18 I (A6 I BF) I hp AQ ?_
  refine jO 19<|B7 I (AE fg I (hs:=JQ (X:=X) (l:=k.ls.l) (t:=tick) (hS:=hkO.2) (hl:=hkl))) I I I I ?_
  rintro _ _ ⟨⟨⟩,rfl,hA⟩
  simp only [ca] at hA
  subst hA
  refine⟨(fun _=>Bh),?_⟩
  refine jP 20 I (Au I) I hp<|jP 21 I (A8 I I) I hp<|jM 22 I I I hp<|Be 57 I (fun hg18=>?_) (fun hg18=>?_)
  ·try simp only [dz] at hg18
   refine jK 23 I I hp<|jK 24 I I hp<|jK 25 I I hp<|jK 26 I I hp<|jK 27 I I hp<|jK 28 I I hp<|jK 29 I I hp<|jK 30 I I hp<|jK 31 I I hp<|jK 32 I I hp<|jO 33<|CN I I I I (fun _=>Bh) ?_
   refine jK 34 I I hp<|jK 35 I I hp<|jP 36 I (AC I I) I hp<|jD<|A5 K14<|Ad I ?_
   exfalso
   first|omega|(exact absurd hw3 (by first|assumption|simp_all))|(exact absurd (hw4 z (by omega) hz) (by first|assumption|simp_all))
  try simp only [dz] at hg18
  refine jM 23 I I I hp<|jP 24 I (Bz (j:=0) I I) I hp ?_
  refine jM 25 I I I hp<|Be 60 I (fun hg19=>?_) (fun hg19=>?_)
  ·try simp only [dz] at hg19
   obtain⟨z,hz⟩: ∃z,kvs[i -1]? =some z:=⟨_,List.getElem?_eq_getElem (by omega)⟩
   have hzP:=LV hz
   refine jP 26 I (A1 I BB) I hp<|jT 27 I (A6 I CL (v:=v)) I hp AQ<|jM 28 I I I hp<|jP 29 I (Ax (j:=1) I I) I hp<|jP 30 I (AO (i -1) I I BV C6 (hA:=hV) (hj:=by omega) (hi:=by omega)) I hp ?_
   refine jT 31 I (BG (f:=EC) (i:=(i -1)) (y:=z) I EM (hA:=hV) (hl:=hz)) I hp AQ ?_
   refine jT 32 I (AI (vs:=EC k) I EM (hl:=by rw [H8];omega) (hi:=Tp k)) I hp AQ ?_
   refine jO 33<|B7 I (AE e5 I (hs:=Mx (a:=z) (b:=k))) I I I I ?_
   rintro _ _ ⟨⟨⟩,rfl,hA⟩
   simp only [ca] at hA
   subst hA
   refine⟨(fun _=>Bh),?_⟩
   refine jP 34 I (Au I) I hp<|jP 35 I (AC I I) I hp<|jP 36 I (A8 I I) I hp<|jD<|A5 K14<|AH I (fun hc2=>?_) (fun hc2=>?_)
   ·try simp only [dz] at hc2
    exfalso
    first|omega|(exact absurd hw3 (by first|assumption|simp_all))|(exact absurd (hw4 z (by omega) hz) (by first|assumption|simp_all))
   try simp only [dz] at hc2
   refine AA<|A5 K12<|AD<|wM I I<|A2 (AN (j:=1) I I) I<|wA I I<|AW<|Az (K9 (i+1) (by omega) (by omega))
  try simp only [dz] at hg19
  refine jK 26 I I hp<|jK 27 I I hp<|jK 28 I I hp<|jK 29 I I hp<|jK 30 I I hp<|jK 31 I I hp<|jK 32 I I hp<|jO 33<|CN I I I I (fun _=>Bh) ?_
  refine jK 34 I I hp<|jP 35 I (A8 I I) I hp<|jP 36 I (A8 I I) I hp<|jD<|A5 K14<|AM I<|AA<|A5 K12<|AD<|wM I I<|A2 (AN (j:=1) I I) I<|wA I I<|AW<|Az (K9 (i+1) (by omega) (by omega))
 try simp only [dz] at hc1
 obtain rfl:i=kvs.length:=by omega
 refine Aj<|A5 K7<|A7 fun _ K20=>BC CE [cl b1 24 [.int .i64 room,.int .i64 tick,v],X] (fun i=>([1,2,2,2,2]:List Nat).getD i 0) ?_
 refine jP 1 I (A1 I Dx) I hp<|jT 2 I (A6 I BF) I hp AQ ?_
 refine jO 0<|B7 I (AE Y9 I (hs:=II (X:=X) (p:=b1) (kvs:=kvs) (room:=room) (tick:=tick) hV hn hu)) I I I I ?_
 rintro _ _ ⟨⟨⟩,rfl,hA⟩
 simp only [ca] at hA
 subst hA
 refine⟨(fun _=>Bh),?_⟩
 refine jP 3 I (GI I I) I hp ?_
 refine jP 4 I (Ag I) I hp<|jD<|A5 K20<|AK ?_
 exact hret.gfE () (BR rfl rfl) (congrArg Value.bool (decide_eq_true (show ((C0 (kvs.map KV.kp):Nat):Int)<=room from hwf.used)))

theorem Oh{X:Ao}{v:Value}{kvs:List KV}{ao:Option Addr}{cap:Nat}{room tick:Int}(hV:Sv [X] v 19 EC kvs ao cap)(hOK: ∀k∈kvs,Lh X k)(hn:kvs.length<=100000000)(hlb: ∀k∈kvs,k.ls.l.length<=900000000000)(hu:C0 (kvs.map KV.kp)<=4000000000000)(hwf: ¬Wf room ⟨tick,kvs.map KV.kp⟩):Ct Tryz.prog 17 [.agg ([.int .i64 room,.int .i64 tick,v]:List Value).toArray] [X] (fun _:Unit=>.bool false) (fun _=> [X]):=by
 refine AY (n:=76) Tryz.func17 I I I fun F w0 Q hret hnorm hp=>?_
 change WC _ _ _ _ _ _ _ (_::F)
 have hpl:(kvs.map KV.kp).length=kvs.length:=List.length_map _
 refine A4 fun _ K1=>AB (Ay (xs:= [.int .i64 room,.int .i64 tick,v]) I I) I I I ?_
 rintro _ _ ⟨b1,rfl,rfl⟩
 refine wA I I<|A3 K1<|A7 fun _ K2=>A4 fun _ K3=>A2 (A1 I Dx) I<|A2 (A6 I BF) I ?_
 first|refine As (An (j:=0) rfl rfl) rfl rfl rfl ?_|refine As (Bt rfl rfl) rfl rfl rfl ?_
 refine wM I I<|Ae 8 I (fun hg4=>?_) (fun hg4=>?_)
 ·try simp only [dz] at hg4
  refine wK I<|wK I<|wK I<|A2 (AC I I) I<|wM I I<|wK I<|wK I<|wK I<|A2 (AC I I) I<|wM I I<|wK I<|wK I<|wK I<|A2 (AC I I) I<|A3 K3 ?_
  refine Ad I<|A4 fun _ K5=>wA I I<|A3 K5<|AK ?_
  exact hret.gf () (BR rfl rfl)
 try simp only [dz] at hg4
 refine A2 (A1 I Dx) I<|A2 (A6 I BF) I ?_
 first|refine As (Bz (j:=1073741824) rfl rfl) rfl rfl rfl ?_|refine As (DI rfl rfl) rfl rfl rfl ?_
 refine A2 (A8 I I) I<|wM I I<|Ae 13 I (fun hg6=>?_) (fun hg6=>?_)
 ·try simp only [dz] at hg6
  refine wK I<|wK I<|wK I<|A2 (AC I I) I<|wM I I<|wK I<|wK I<|wK I<|A2 (AC I I) I<|A3 K3<|Ad I<|A4 fun _ K7=>wA I I<|A3 K7<|AK ?_
  exact hret.gf () (BR rfl rfl)
 try simp only [dz] at hg6
 refine A2 (A1 I Di) I<|A2 (A6 I BF) I ?_
 first|refine As (An (j:=0) rfl rfl) rfl rfl rfl ?_|refine As (Bt rfl rfl) rfl rfl rfl ?_
 refine A2 (A8 I I) I<|wM I I<|Ae 18 I (fun hg8=>?_) (fun hg8=>?_)
 ·try simp only [dz] at hg8
  refine wK I<|wK I<|wK I<|A2 (AC I I) I<|A3 K3<|Ad I<|A4 fun _ K9=>wA I I<|A3 K9<|AK ?_
  exact hret.gf () (BR rfl rfl)
 try simp only [dz] at hg8
 refine A2 (A1 I Di) I<|A2 (A6 I BF) I ?_
 first|refine As (Bz (j:=1099511627776) rfl rfl) rfl rfl rfl ?_|refine As (DI rfl rfl) rfl rfl rfl ?_
 refine A2 (A8 I I) I<|A3 K3<|AH I (fun hc0=>?_) (fun hc0=>?_)
 ·try simp only [dz] at hc0
  refine A4 fun _ K10=>wA I I<|A3 K10<|AK ?_
  exact hret.gf () (BR rfl rfl)
 try simp only [dz] at hc0
 have hrm:0<=room/\room<=1073741824:=by omega
 have htk:0<=tick/\tick<=1099511627776:=by omega
 refine AA<|A5 K2<|A7 fun _ K11=>A4 fun _ K12=>wA I I<|A3 K12<|AG<|Ak (σ:=Nat) (fun i=> [(3,.int .i64 ((i:Nat):Int))]) (fun i=> []) (fun i=>i<=kvs.length/\WfP room tick (kvs.map KV.kp) i) (fun i=>kvs.length -i) (0) [1,72,73,74,75] Cw D8 ?_ ?_ Sub.refl ?_
 ·exact⟨Nat.zero_le _,gJ hrm htk⟩
 ·(try dsimp only);exact(Wk.cons Ch Wk.nil)
 rintro i ⟨hi,hwp⟩ K13 K13
 simp only [List.cons_append,List.nil_append]
 refine A7 fun _ K14=>A4 fun _ K15=>wM I I<|A2 (A1 I BB) I<|A2 (A6 I CL (v:=v)) I<|A2 (Al I I BV (hA:=hV)) I ?_
 refine A2 (An I I) I<|A3 K15<|AH I (fun hc1=>?_) (fun hc1=>?_)
 ·try simp only [dz] at hc1
  obtain⟨k,hk⟩: ∃k,kvs[i]? =some k:=⟨_,List.getElem?_eq_getElem (by omega)⟩
  have hkP:=LV hk
  have hkO:=hOK k (List.mem_of_getElem? hk)
  have hkl:=hlb k (List.mem_of_getElem? hk)
  refine AA<|A5 K14<|A7 fun _ K16=>AG<|A4 fun _ K17=>A2 (A1 I BB) I<|A2 (A6 I CL (v:=v)) I<|wM I I<|A2 (AO i I I BV C6 (hA:=hV) (hi:=by omega)) I ?_
  refine A2 (BG (f:=EC) (i:=i) (y:=k) I EM (hA:=hV) (hl:=hk)) I ?_
  refine AB (AZ Ey) I I I ?_
  rintro _ _ ⟨b4,rfl,rfl⟩
  refine AX (AV (ys:=EC k) I I C6 (h1:=by simpa [Value.cells] using encKV.one k) (hv:=by simpa [Value.cells] using encKV.len k) (hr:=by simp [Value.cells])) I I ?_
  rintro _ _ rfl
  refine A3 K17<|A7 fun _ K18=>BC CE [cl b1 24 [.int .i64 room,.int .i64 tick,v],cl b4 83 (EC k),X] (fun i=>([2,2,2,2,2,2,2,2,2,2,2,2,2,2,2,2,2,2,2,1,2,2,2,2,2,2,2,2,2,2,2,2,2,1,2,2,2]:List Nat).getD i 0) ?_
  refine jP 0 I (A1 I E4) I hp<|jT 1 I (A6 I BF (v:=.int .i64 k.num) (hi:=ES k)) I hp AQ<|jP 2 I (Bt I I) I hp<|jM 3 I I I hp<|Be 38 I (fun hg19=>?_) (fun hg19=>?_)
  ·try simp only [dz] at hg19
   refine jK 4 I I hp<|jK 5 I I hp<|jK 6 I I hp<|jP 7 I (AC I I) I hp<|jM 8 I I I hp<|jK 9 I I hp<|jK 10 I I hp<|jK 11 I I hp<|jK 12 I I hp<|jP 13 I (AC I I) I hp<|jM 14 I I I hp<|jK 15 I I hp<|jK 16 I I hp<|jK 17 I I hp<|jK 18 I I hp ?_
   refine jO 19<|CN I I I I (fun _=>Bh) ?_
   refine jK 20 I I hp<|jP 21 I (AC I I) I hp<|jM 22 I I I hp<|jK 23 I I hp<|jK 24 I I hp<|jK 25 I I hp<|jK 26 I I hp<|jK 27 I I hp<|jK 28 I I hp<|jK 29 I I hp<|jK 30 I I hp<|jK 31 I I hp<|jK 32 I I hp<|jO 33<|CN I I I I (fun _=>Bh) ?_
   refine jK 34 I I hp<|jK 35 I I hp<|jP 36 I (AC I I) I hp<|jD<|A5 K18<|Ad I<|A4 fun _ K20=>wA I I<|A3 K20<|AK ?_
   exact hret.gf () (BR rfl rfl)
  try simp only [dz] at hg19
  refine jP 4 I (A1 I E4) I hp<|jT 5 I (A6 I BF (v:=.int .i64 k.num) (hi:=ES k)) I hp AQ<|jP 6 I (DI I I) I hp ?_
  refine jP 7 I (A8 I I) I hp<|jM 8 I I I hp<|Be 43 I (fun hg21=>?_) (fun hg21=>?_)
  ·try simp only [dz] at hg21
   refine jK 9 I I hp<|jK 10 I I hp<|jK 11 I I hp<|jK 12 I I hp<|jP 13 I (AC I I) I hp<|jM 14 I I I hp<|jK 15 I I hp<|jK 16 I I hp<|jK 17 I I hp<|jK 18 I I hp<|jO 19<|CN I I I I (fun _=>Bh) ?_
   refine jK 20 I I hp<|jP 21 I (AC I I) I hp<|jM 22 I I I hp<|jK 23 I I hp<|jK 24 I I hp<|jK 25 I I hp<|jK 26 I I hp<|jK 27 I I hp<|jK 28 I I hp<|jK 29 I I hp<|jK 30 I I hp<|jK 31 I I hp<|jK 32 I I hp<|jO 33<|CN I I I I (fun _=>Bh) ?_
   refine jK 34 I I hp<|jK 35 I I hp<|jP 36 I (AC I I) I hp<|jD<|A5 K18<|Ad I<|A4 fun _ K22=>wA I I<|A3 K22<|AK ?_
   exact hret.gf () (BR rfl rfl)
  try simp only [dz] at hg21
  refine jP 9 I (A1 I C4) I hp<|jT 10 I (A6 I Bg (v:=k.b.v) (hi:=GL k)) I hp AQ<|jP 11 I (AL (v:=.int .i64 ((k.b.l.length:Nat):Int)) (BA I I BQ) I) I hp<|jP 12 I (Bz (j:=33554432) I I) I hp ?_
  refine jP 13 I (A8 I I) I hp<|jM 14 I I I hp<|Be 49 I (fun hg23=>?_) (fun hg23=>?_)
  ·try simp only [dz] at hg23
   refine jK 15 I I hp<|jK 16 I I hp<|jK 17 I I hp<|jK 18 I I hp<|jO 19<|CN I I I I (fun _=>Bh) ?_
   refine jK 20 I I hp<|jP 21 I (AC I I) I hp<|jM 22 I I I hp<|jK 23 I I hp<|jK 24 I I hp<|jK 25 I I hp<|jK 26 I I hp<|jK 27 I I hp<|jK 28 I I hp<|jK 29 I I hp<|jK 30 I I hp<|jK 31 I I hp<|jK 32 I I hp<|jO 33<|CN I I I I (fun _=>Bh) ?_
   refine jK 34 I I hp<|jK 35 I I hp<|jP 36 I (AC I I) I hp<|jD<|A5 K18<|Ad I<|A4 fun _ K24=>wA I I<|A3 K24<|AK ?_
   exact hret.gf () (BR rfl rfl)
  try simp only [dz] at hg23
  refine jP 15 I (A1 I Ca) I hp<|jT 16 I (A6 I EP (v:=k.ls.v) (hi:=GE k)) I hp AQ<|jP 17 I (A1 I Di) I hp<|jT 18 I (A6 I BF) I hp AQ ?_
  refine jO 19<|B7 I (AE fg I (hs:=JQ (X:=X) (l:=k.ls.l) (t:=tick) (hS:=hkO.2) (hl:=hkl))) I I I I ?_
  rintro _ _ ⟨⟨⟩,rfl,hA⟩
  simp only [ca] at hA
  subst hA
  refine⟨(fun _=>Bh),?_⟩
  refine jP 20 I (Au I) I hp<|jP 21 I (A8 I I) I hp<|jM 22 I I I hp<|Be 57 I (fun hg25=>?_) (fun hg25=>?_)
  ·try simp only [dz] at hg25
   refine jK 23 I I hp<|jK 24 I I hp<|jK 25 I I hp<|jK 26 I I hp<|jK 27 I I hp<|jK 28 I I hp<|jK 29 I I hp<|jK 30 I I hp<|jK 31 I I hp<|jK 32 I I hp<|jO 33<|CN I I I I (fun _=>Bh) ?_
   refine jK 34 I I hp<|jK 35 I I hp<|jP 36 I (AC I I) I hp<|jD<|A5 K18<|Ad I<|A4 fun _ K26=>wA I I<|A3 K26<|AK ?_
   exact hret.gf () (BR rfl rfl)
  try simp only [dz] at hg25
  refine jM 23 I I I hp<|jP 24 I (Bz (j:=0) I I) I hp ?_
  refine jM 25 I I I hp<|Be 60 I (fun hg27=>?_) (fun hg27=>?_)
  ·try simp only [dz] at hg27
   obtain⟨z,hz⟩: ∃z,kvs[i -1]? =some z:=⟨_,List.getElem?_eq_getElem (by omega)⟩
   have hzP:=LV hz
   refine jP 26 I (A1 I BB) I hp<|jT 27 I (A6 I CL (v:=v)) I hp AQ<|jM 28 I I I hp<|jP 29 I (Ax (j:=1) I I) I hp<|jP 30 I (AO (i -1) I I BV C6 (hA:=hV) (hj:=by omega) (hi:=by omega)) I hp ?_
   refine jT 31 I (BG (f:=EC) (i:=(i -1)) (y:=z) I EM (hA:=hV) (hl:=hz)) I hp AQ ?_
   refine jT 32 I (AI (vs:=EC k) I EM (hl:=by rw [H8];omega) (hi:=Tp k)) I hp AQ ?_
   refine jO 33<|B7 I (AE e5 I (hs:=Mx (a:=z) (b:=k))) I I I I ?_
   rintro _ _ ⟨⟨⟩,rfl,hA⟩
   simp only [ca] at hA
   subst hA
   refine⟨(fun _=>Bh),?_⟩
   refine jP 34 I (Au I) I hp<|jP 35 I (AC I I) I hp<|jP 36 I (A8 I I) I hp<|jD<|A5 K18<|AH I (fun hc2=>?_) (fun hc2=>?_)
   ·try simp only [dz] at hc2
    refine A4 fun _ K28=>wA I I<|A3 K28<|AK ?_
    exact hret.gf () (BR rfl rfl)
   try simp only [dz] at hc2
   have hno1:0<=k.num/\k.num<255:=by omega
   have hno2:k.b.l.length<=33554432:=by omega
   have hno3:Dk tick k.kp.ls:=by first|assumption|simp_all
   have hno4:(i=0\/ ∃y,(kvs.map KV.kp)[i -1]? =some y/\Eh y.key k.kp.key):=by first|exact .inl (by omega)|exact .inr ⟨z.kp,hzP,by first|assumption|simp_all⟩
   refine AA<|A5 K16<|AD<|wM I I<|A2 (AN (j:=1) I I) I<|wA I I<|AW<|Az (K13 (i+1) (⟨by omega,cF hwp hkP hno1 hno2 hno3 hno4⟩) (by omega))
  try simp only [dz] at hg27
  refine jK 26 I I hp<|jK 27 I I hp<|jK 28 I I hp<|jK 29 I I hp<|jK 30 I I hp<|jK 31 I I hp<|jK 32 I I hp<|jO 33<|CN I I I I (fun _=>Bh) ?_
  refine jK 34 I I hp<|jP 35 I (A8 I I) I hp<|jP 36 I (A8 I I) I hp<|jD<|A5 K18<|AM I ?_
  have hno1:0<=k.num/\k.num<255:=by omega
  have hno2:k.b.l.length<=33554432:=by omega
  have hno3:Dk tick k.kp.ls:=by first|assumption|simp_all
  have hno4:(i=0\/ ∃y,(kvs.map KV.kp)[i -1]? =some y/\Eh y.key k.kp.key):=by first|exact .inl (by omega)|exact .inr ⟨z.kp,hzP,by first|assumption|simp_all⟩
  refine AA<|A5 K16<|AD<|wM I I<|A2 (AN (j:=1) I I) I<|wA I I<|AW<|Az (K13 (i+1) (⟨by omega,cF hwp hkP hno1 hno2 hno3 hno4⟩) (by omega))
 try simp only [dz] at hc1
 obtain rfl:i=kvs.length:=by omega
 refine Aj<|A5 K11<|A7 fun _ K29=>BC CE [cl b1 24 [.int .i64 room,.int .i64 tick,v],X] (fun i=>([1,2,2,2,2]:List Nat).getD i 0) ?_
 refine jP 1 I (A1 I Dx) I hp<|jT 2 I (A6 I BF) I hp AQ ?_
 refine jO 0<|B7 I (AE Y9 I (hs:=II (X:=X) (p:=b1) (kvs:=kvs) (room:=room) (tick:=tick) hV hn hu)) I I I I ?_
 rintro _ _ ⟨⟨⟩,rfl,hA⟩
 simp only [ca] at hA
 subst hA
 refine⟨(fun _=>Bh),?_⟩
 refine jP 3 I (GI I I) I hp ?_
 refine jP 4 I (Ag I) I hp<|jD<|A5 K29<|AK ?_
 exact hret.gfE () (BR rfl rfl) (congrArg Value.bool (decide_eq_false (fun q=>hwf (gI hwp (by omega) q))))

theorem QU{X:Ao}{p:Nat}{v:Value}{kvs:List KV}{ao:Option Addr}{cap:Nat}{room tick:Int}{ix:Ix}(hV:Sv [X] v 19 EC kvs ao cap)(hn:kvs.length<=100000000):Ct Tryz.prog 56 [.pointer (some ⟨p,0,none⟩),aU .u8 ix.l] [cl p 24 [.int .i64 room,.int .i64 tick,v],X] (fun g:(Option Nat × Nat) × (Option Nat × Nat)=>.tuple #[sl g.1.1 (CB ix (kvs.map KV.kp)).length g.1.2,sl g.2.1 (Gr ix (kvs.map KV.kp)).length g.2.2]) (fun g=> [cl p 24 [.int .i64 room,.int .i64 tick,v],X,Aa g.1.1 g.1.2 1 3 eI (CB ix (kvs.map KV.kp)),Aa g.2.1 g.2.2 1 3 eI (Gr ix (kvs.map KV.kp))]):=by
 refine AY (n:=53) Tryz.func56 I I I fun F w0 Q hret hnorm hp=>?_
 change WC _ _ _ _ _ _ _ (_::_::F)
 have hixl:=ix.h
 refine A4 fun _ K1=>AB (Pu (k:=.u8) I) I I I ?_
 rintro _ _ ⟨b3,rfl,rfl⟩
 refine A2 (Ag (v:=sl none 0 0) I) I<|A2 (Ag (v:=sl none 0 0) I) I<|A3 K1<|A4 fun _ K2=>A2 (Ag (v:=sl none 0 0) I) I<|CJ eI 1 3 ?_
 refine A2 (Ag (v:=sl none 0 0) I) I<|CJ eI 1 3 ?_
 refine A3 K2<|A7 fun _ K3=>A4 fun _ K4=>wA rfl rfl<|A3 K4<|AG<|Ak (σ:=Nat × (Option Nat) × Nat × (Option Nat) × Nat) (fun ⟨i,a,c,a2,c2⟩=> [(6,sl a (CB ix ((kvs.map KV.kp).take i)).length c),(7,sl a2 (Gr ix ((kvs.map KV.kp).take i)).length c2),(8,.int .i64 ((i:Nat):Int))]) (fun ⟨i,a,c,a2,c2⟩=> [Aa a c 1 3 eI (CB ix ((kvs.map KV.kp).take i)),Aa a2 c2 1 3 eI (Gr ix ((kvs.map KV.kp).take i))]) (fun ⟨i,a,c,a2,c2⟩=>i<=kvs.length) (fun ⟨i,a,c,a2,c2⟩=>kvs.length -i) ⟨0,none,0,none,0⟩ [0,3,4,5,51,52] Cw (by (try dsimp only);rw [show (CB ix ((kvs.map KV.kp).take 0))= [] from rfl,show (Gr ix ((kvs.map KV.kp).take 0))= [] from rfl];repeat (first|with_reducible exact Gv.nil|(with_reducible apply Gv.cons;· (repeat (first|with_reducible exact Ext.here|with_reducible apply Ext.there))))) ?_ ?_ Sub.refl ?_
 ·exact Nat.zero_le _
 ·(try dsimp only);exact(Wk.cons Ch (Wk.cons Ch (Wk.cons Ch Wk.nil)))
 rintro⟨i,a,c,a2,c2⟩ hi K5 K5
 simp only [List.cons_append,List.nil_append]
 refine A7 fun _ K6=>A4 fun _ K7=>wM I I<|wM I I<|A2 (A9 I) I<|A2 (A1 I BB) I<|A2 (A6 I CL (v:=v)) I<|A2 (Al I I BV (hA:=hV)) I ?_
 refine A2 (An I I) I<|A3 K7<|AH I (fun hc0=>?_) (fun hc0=>?_)
 ·try simp only [dz] at hc0
  obtain⟨k,hk⟩: ∃k,kvs[i]? =some k:=⟨_,List.getElem?_eq_getElem (by omega)⟩
  have hkP:=LV hk
  have hbl:=Wu ix ((kvs.map KV.kp).take i)
  rw [List.length_take,List.length_map] at hbl
  refine AA<|A5 K6<|A7 fun _ K8=>AG<|A7 fun _ K9=>Am CE (fun _=>2) ?_
  refine jM 0 I I I hp<|jP 1 I (A9 I) I hp<|jP 2 I (A1 I BB) I hp<|jT 3 I (A6 I CL (v:=v)) I hp AQ<|jM 4 I I I hp<|jP 5 I (AO i I I BV C6 (hA:=hV) (hi:=by omega)) I hp ?_
  refine jP 6 I (A1 I FO) I hp<|jT 7 I (I2 (f:=EC) (i:=i) (j:=0) (y:=k) (vs:=k.ix.l.flatMap (eU .u8)) I Cv (hA:=hV) (hl:=hk) (hv:=L8 k) (hjk:=by rw [H8];omega)) I hp AQ ?_
  refine jT 8 I (NY I Cv) I hp AQ ?_
  refine jP 9 I (Pp I I LY k.ix.h ix.h) I hp ?_
  refine jD<|A5 K9<|AH I (fun hc1=>?_) (fun hc1=>?_)
  ·try simp only [dz] at hc1
   have hyes:k.kp.ix=ix:=P8 (by first|assumption|simp_all)
   have hnY:(CB ix ((kvs.map KV.kp).take i))++ [k.num]=(CB ix ((kvs.map KV.kp).take (i+1))):=Ws hkP hyes
   have hzY:(Gr ix ((kvs.map KV.kp).take i))++ [((k.b.l.length:Nat):Int)]=(Gr ix ((kvs.map KV.kp).take (i+1))):=Z3 hkP hyes
   refine A4 fun _ K10=>wM I I<|wM I I<|A2 (A9 I) I<|A2 (A1 I BB) I<|A2 (A6 I CL (v:=v)) I<|wM I I<|A2 (AO i I I BV C6 (hA:=hV) (hi:=by omega)) I ?_
   refine A2 (A1 I E4) I<|A2 (Af (f:=EC) (i:=i) (j:=16) (y:=k) I BF (hA:=hV) (hl:=hk) (hv:=ES k)) I ?_
   refine AB (Br (xs:= [.int .i64 k.num]) I Dv UA Fw) I I I ?_
   rintro _ _ ⟨b37,rfl,rfl⟩
   refine AB (B6 (f:=eI) Jl k.num I I Dv Dv dS) I I I ?_
   rintro _ _ ⟨a38,cap38,rfl,rfl⟩
   rw [hnY,show (CB ix ((kvs.map KV.kp).take i)).length+1=(CB ix ((kvs.map KV.kp).take (i+1))).length from by rw [<-hnY,List.length_append];rfl]
   refine wA I I<|A3 K10<|AD<|wM I I<|wM I I<|A2 (A9 I) I<|A2 (A1 I BB) I<|A2 (A6 I CL (v:=v)) I<|wM I I<|A2 (AO i I I BV C6 (hA:=hV) (hi:=by omega)) I ?_
   refine A2 (A1 I C4) I<|A2 (Af (f:=EC) (i:=i) (j:=17) (y:=k) I Bg (hA:=hV) (hl:=hk) (hv:=GL k)) I ?_
   refine A2 (AL (v:=.int .i64 ((k.b.l.length:Nat):Int)) (BA I I BQ) I) I<|AB (Br (xs:= [.int .i64 ((k.b.l.length:Nat):Int)]) I Dv UA Fw) I I I ?_
   rintro _ _ ⟨b49,rfl,rfl⟩
   refine AB (B6 (f:=eI) Jl ((k.b.l.length:Nat):Int) I I Dv Dv dS) I I I ?_
   rintro _ _ ⟨a50,cap50,rfl,rfl⟩
   rw [hzY,show (Gr ix ((kvs.map KV.kp).take i)).length+1=(Gr ix ((kvs.map KV.kp).take (i+1))).length from by rw [<-hzY,List.length_append];rfl]
   refine wA I I<|AW<|A5 K8<|AD<|wM I I<|A2 (AN (j:=1) I I) I<|wA I I<|AW<|Az (K5 ⟨i+1,a38,cap38,a50,cap50⟩ (by (try dsimp only);omega) (by (try dsimp only);omega))
  try simp only [dz] at hc1
  have hno: ¬k.kp.ix=ix:=fun z=>(by assumption: ¬k.ix.l=ix.l) (congrArg Ix.l z)
  rw [ZQ hkP hno,cY hkP hno]
  refine AA<|A5 K8<|AD<|wM I I<|A2 (AN (j:=1) I I) I<|wA I I<|AW<|Az (K5 ⟨i+1,a,c,a2,c2⟩ (by (try dsimp only);omega) (by (try dsimp only);omega))
 try simp only [dz] at hc0
 obtain rfl:i=kvs.length:=by omega
 rw [List.take_of_length_le (by rw [List.length_map];exact Nat.le_refl _)]
 refine Aj<|A5 K3<|A4 fun _ K11=>wM I I<|wM I I<|wA I I<|wA I I<|A3 K11<|AK ?_
 exact hret.gf ((a,c),(a2,c2)) (OV rfl rfl rfl)
end Go.Proofs.YtoakfknnaiapiaaGreat
