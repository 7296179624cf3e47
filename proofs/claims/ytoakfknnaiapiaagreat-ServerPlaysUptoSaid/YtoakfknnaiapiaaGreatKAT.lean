/-
  Contracts of functions that the claim reaches, or the logic and the plain laws that they rest on, or the row over them. (Conditions: none beyond the statement.)
-/
import Derived.Test.YtoakfknnaiapiaaGreatKAS
import Derived.Test.YtoakfknnaiapiaaGreatKAR
import Derived.Test.YtoakfknnaiapiaaGreatKAJ
import Derived.Test.YtoakfknnaiapiaaGreatLibA
set_option linter.all false
namespace Go.Proofs.YtoakfknnaiapiaaGreat
open Go.RowKit Go.SL Go.ShM Go.SvM
set_option maxHeartbeats 1000000
set_option maxRecDepth 20000
set_option linter.all false
theorem e8:DF Tryz.prog 26=true:=by kernel_rfl
theorem fp:DF Tryz.prog 29=true:=by kernel_rfl
theorem cf44:DF Tryz.prog 44=true:=by kernel_rfl
theorem cf48:DF Tryz.prog 48=true:=by kernel_rfl
theorem RH{X:Ao}{v:Value}{kvs:List KV}{ao:Option Addr}{cap:Nat}{room tick:Int}(hV:Sv [X] v 19 EC kvs ao cap)(hOK: ∀k∈kvs,Lh X k)(hn:kvs.length<=100000000)(hbb: ∀k∈kvs,k.b.l.length<=900000000000)(hlb: ∀k∈kvs,k.ls.l.length<=900000000000):Ct Tryz.prog 14 [(.agg ([.int .i64 room,.int .i64 tick,v]:List Value).toArray)] [X] (fun g: {g:List KM × Option Nat × Nat // g.1.map KM.e=kvs.map KV.kp} =>(.agg ([.int .i64 room,.int .i64 tick,sl g.1.2.1 g.1.1.length g.1.2.2]:List Value).toArray)) (fun g=> [X,Aa g.1.2.1 g.1.2.2 19 83 BH g.1.1,star (CQ 5 44) g.1.1]):=by
 refine AY (n:=43) Tryz.func14 I I I fun F w0 Q hret hnorm hp=>?_
 change WC _ _ _ _ _ _ _ (_::F)
 refine A4 fun _ K1=>AB (Ay (xs:= [.int .i64 room,.int .i64 tick,v]) I I) I I I ?_
 rintro _ _ ⟨b1,rfl,rfl⟩
 refine AB (AZ MJ) I I I ?_
 rintro _ _ ⟨b2,rfl,rfl⟩
 refine A3 K1<|A4 fun _ K2=>A2 (A1 I Dx) I<|A2 (A6 I BF) I ?_
 refine A2 (A1 I Di) I<|A2 (A6 I BF) I ?_
 refine A2 (AL (v:=(.agg ([.int .i64 room,.int .i64 tick,.slice none 0 0]:List Value).toArray)) (Ah TI I) I) I<|AB (AZ MJ) I I I ?_
 rintro _ _ ⟨bo,rfl,rfl⟩
 refine AX (AV (ys:= [.int .i64 room,.int .i64 tick,.slice none 0 0]) I I Gx (h1:=by simp [BD,Value.cells,Value.oneCell',sl]) (hr:=I)) I I ?_
 rintro _ _ rfl
 refine A3 K2<|A7 fun _ K3=>A4 fun _ K4=>wA I I<|A3 K4<|AG<|Ra ?_
 refine Gq (CQ 5 44) ?_
 rw [show cl bo 24 [.int .i64 room,.int .i64 tick,.slice none 0 0]=cl bo 24 [.int .i64 room,.int .i64 tick,sl none ([]:List KM).length 0] from rfl]
 refine Ak (σ:=Nat × (List KM) × (Option Nat) × Nat) (fun ⟨i,D,a,c⟩=> [(4,.int .i64 ((i:Nat):Int))]) (fun ⟨i,D,a,c⟩=> [cl bo 24 [.int .i64 room,.int .i64 tick,sl a D.length c],Aa a c 19 83 BH D,star (CQ 5 44) D]) (fun ⟨i,D,a,c⟩=>i<=kvs.length/\D.map KM.e=(kvs.take i).map KV.kp) (fun ⟨i,D,a,c⟩=>kvs.length -i) ⟨0,[],none,0⟩ [1,2,3,42] Cw D8 ?_ ?_ Sub.refl ?_
 ·exact⟨Nat.zero_le _,rfl⟩
 ·(try dsimp only);exact(Wk.cons Ch Wk.nil)
 rintro⟨i,D,a,c⟩ ⟨hi,hD⟩ K5 K5
 simp only [List.cons_append,List.nil_append]
 refine A7 fun _ K6=>A4 fun _ K7=>wM I I<|A2 (A1 I BB) I<|A2 (A6 I CL (v:=v)) I<|A2 (Al I I BV (hA:=hV)) I ?_
 refine A2 (An I I) I<|A3 K7<|AH I (fun hc0=>?_) (fun hc0=>?_)
 ·try simp only [dz] at hc0
  obtain⟨k,hk⟩: ∃k,kvs[i]? =some k:=⟨_,List.getElem?_eq_getElem (by omega)⟩
  have hkO:=hOK k (List.mem_of_getElem? hk)
  have hk1:=hbb k (List.mem_of_getElem? hk)
  have hk2:=hlb k (List.mem_of_getElem? hk)
  have hDl:D.length=i:=by have q:=congrArg List.length hD;rw [List.length_map,List.length_map,List.length_take] at q;omega
  refine Cz (fun w h=>BO (e:=1) (T:=5) (f:=(eU .u8 (w:=8))) (BO (e:=2) (T:=44) (f:=C9) h)) ?_
  refine AA<|A5 K6<|A7 fun _ K8=>AG<|A4 fun _ K9=>A2 (A1 I BB) I<|A2 (A6 I CL (v:=v)) I<|wM I I<|A2 (AO i I I BV C6 (hA:=hV) (hi:=by omega)) I ?_
  refine A2 (BG (f:=EC) (i:=i) (y:=k) I EM (hA:=hV) (hl:=hk)) I ?_
  refine AB (AZ Ey) I I I ?_
  rintro _ _ ⟨b5,rfl,rfl⟩
  refine AX (AV (ys:=EC k) I I C6 (h1:=by simpa [Value.cells] using encKV.one k) (hv:=by simpa [Value.cells] using encKV.len k) (hr:=by simp [Value.cells])) I I ?_
  rintro _ _ rfl
  refine A3 K9<|A4 fun _ K10=>A2 (Ag (v:=sl none 0 0) I) I<|CJ C9 2 44 ?_
  refine A3 K10<|A4 fun _ K11=>wM I I<|A2 (A1 I Ca) I<|A2 (A6 I EP (v:=k.ls.v) (hi:=GE k)) I<|AB (E6 (f:=C9) encLs I I Bw Bw Lg (a:=none) (cap:=0) (l:= []) (l2:=k.ls.l) (hS:=hkO.2) (hb:=by rw [List.length_nil];omega)) I I I ?_
  rintro _ _ ⟨a27,cap27,rfl,rfl⟩
  rw [List.nil_append,show ([]:List Ls).length+k.ls.l.length=k.ls.l.length from Nat.zero_add _]
  refine wA I I<|A3 K11<|BC CE [cl bo 24 [.int .i64 room,.int .i64 tick,sl a D.length c],cl b5 83 (EC k)] (fun i=>([2,2,2,2,2,2,2,2,1,2,2,1,1,2,0]:List Nat).getD i 0) ?_
  refine jP 0 I (A1 I BB) I hp<|jT 1 I (A6 I CL (v:=sl a D.length c)) I hp AQ<|jP 2 I (A1 I FO) I hp<|jT 3 I (AI (vs:=k.ix.l.flatMap (eU .u8)) I Cv (hl:=by rw [H8];omega) (hi:=L8 k)) I hp AQ ?_
  refine jP 4 I (A1 I E4) I hp<|jT 5 I (A6 I BF (v:=.int .i64 k.num) (hi:=ES k)) I hp AQ<|jP 6 I (A1 I C4) I hp<|jT 7 I (A6 I Bg (v:=k.b.v) (hi:=GL k)) I hp AQ<|jM 9 I I I hp<|jO 8<|B7 I (AE cf44 I (hs:=aL (X:=X) (l:=k.b.l) (hS:=hkO.1) (hl:=hk1))) I I I I ?_
  rintro _ _ ⟨⟨a36,c36⟩,rfl,hA⟩
  simp only [ca] at hA
  subst hA
  refine⟨(fun _=>Bh),?_⟩
  refine jP 10 I (AL (v:=.agg (BH (⟨⟨k.ix,k.num,k.b.l,k.ls.l⟩,a36,c36,a27,cap27⟩:KM)).toArray) (Ah Mi I (hf:=XI _ _ _ _ _ _ _ _)) I) I hp ?_
  refine jO 11<|B7 I (Br (xs:=BH (⟨⟨k.ix,k.num,k.b.l,k.ls.l⟩,a36,c36,a27,cap27⟩:KM)) I BV Ey C6 (hl:=encKM.len _)) I I I I ?_
  rintro _ _ ⟨b39,rfl,rfl⟩
  refine⟨(fun _=>Bh),?_⟩
  refine jO 12<|B7 I (B6 (f:=BH) encKM (⟨⟨k.ix,k.num,k.b.l,k.ls.l⟩,a36,c36,a27,cap27⟩:KM) I I BV BV Ia) I I I I ?_
  rintro _ _ ⟨a55,cap55,rfl,rfl⟩
  rw [show D.length+1=(D++ [(⟨⟨k.ix,k.num,k.b.l,k.ls.l⟩,a36,c36,a27,cap27⟩:KM)]).length from by rw [List.length_append];rfl]
  refine⟨(fun _=>Bh),?_⟩
  refine jP 13 I (A1 I BB) I hp<|jO 14<|EN I (Ar (ys:= [.int .i64 room,.int .i64 tick,sl a55 (D++ [(⟨⟨k.ix,k.num,k.b.l,k.ls.l⟩,a36,c36,a27,cap27⟩:KM)]).length cap55]) I I La (hr:=I)) I ?_
  rintro _ _ rfl
  refine jD<|A5 K8<|AD<|wM I I<|JD 5 44 D ⟨k.ix,k.num,k.b.l,k.ls.l⟩ a36 c36 a27 cap27 ?_
  refine A2 (AN (j:=1) I I) I<|wA I I<|AW<|Az (K5 ⟨i+1,D++ [(⟨⟨k.ix,k.num,k.b.l,k.ls.l⟩,a36,c36,a27,cap27⟩:KM)],a55,cap55⟩ (⟨by (try dsimp only);omega,TU hk hD I⟩) (by (try dsimp only);omega))
 try simp only [dz] at hc0
 obtain rfl:i=kvs.length:=by omega
 rw [List.take_length] at hD
 refine Aj<|A5 K3<|A4 fun _ K12=>A2 (AI (vs:= [.int .i64 room,.int .i64 tick,sl a D.length c]) I Fv) I<|AX (AV (ys:= [.int .i64 room,.int .i64 tick,sl a D.length c]) I I Gx (h1:=by simp [BD,Value.cells,Value.oneCell',sl]) (hr:=I)) I I ?_
 rintro _ _ rfl
 refine A3 K12<|AK ?_
 exact hret.gf ⟨(D,a,c),hD⟩ (Fl rfl rfl Fv)

theorem XG(ix:Ix)(n:Int)(bv lv:Value)(m:Int):(FM ix n bv lv).set 16 (.int .i64 m)=FM ix m bv lv:=by
 unfold FM
 rw [List.set_append_right _ _ (by rw [IS];omega),IS];rfl
theorem WG{α:Type}{xs kms:List α}{i:Nat}{y:α}(h:xs.drop i=kms.drop i):(xs.set i y).drop (i+1)=kms.drop (i+1):=by
 rw [List.drop_set_of_lt (Nat.lt_succ_self i)]
 have:=congrArg (List.drop 1) h
 rw [List.drop_drop,List.drop_drop] at this
 exact this
theorem NB{α:Type}{xs kms:List α}{i:Nat}{k:α}(h:xs.drop i=kms.drop i)(hk:kms[i]? =some k):xs[i]? =some k:=by
 have:=congrArg (fun l=>l[0]?) h
 simp only [List.getElem?_drop,Nat.add_zero] at this
 rw [this];exact hk

theorem QO{kms:List KM}{ka:Option Nat}{kc:Nat}{room tick:Int}(hn:kms.length<=100000000)(hbb: ∀k∈kms,k.e.b.length<=900000000000)(hlb: ∀k∈kms,k.e.ls.length<=900000000000):Ct Tryz.prog 16 [(.agg ([.int .i64 room,.int .i64 tick,(sl ka kms.length kc)]:List Value).toArray)] [Aa ka kc 19 83 BH kms,star (CQ 5 44) kms] (fun _:Unit=>.tuple #[]) (fun _=> []):=by
 refine AY (n:=29) Tryz.func16 I I I fun F w0 Q hret hnorm hp=>?_
 change WC _ _ _ _ _ _ _ (_::_::F)
 refine A4 fun _ K1=>AB (Ay (xs:= [.int .i64 room,.int .i64 tick,sl ka kms.length kc]) I I) I I I ?_
 rintro _ _ ⟨b1,rfl,rfl⟩
 refine A3 K1<|A4 fun _ K2=>wA I I<|A3 K2<|AG ?_
 rw [show star (CQ 5 44) kms=star (CQ 5 44) (kms.drop 0) from rfl]
 refine Ak (σ:=Nat × (List KM)) (fun ⟨i,xs⟩=> [(2,.int .i64 ((i:Nat):Int))]) (fun ⟨i,xs⟩=> [Aa ka kc 19 83 BH xs,star (CQ 5 44) (kms.drop i)]) (fun ⟨i,xs⟩=>i<=kms.length/\xs.length=kms.length/\xs.drop i=kms.drop i) (fun ⟨i,xs⟩=>kms.length -i) ⟨0,kms⟩ [1] Cw D8 ?_ ?_ Sub.refl ?_
 ·exact⟨Nat.zero_le _,rfl,rfl⟩
 ·(try dsimp only);exact(Wk.cons Ch Wk.nil)
 rintro⟨i,xs⟩ ⟨hi,hxl,hX⟩ K3 K3
 simp only [List.cons_append,List.nil_append]
 refine A7 fun _ K4=>A4 fun _ K5=>wM I I<|A2 (A1 I BB) I<|A2 (A6 I CL (v:=sl ka kms.length kc)) I<|A2 (AL (v:=.int .i64 ((kms.length:Nat):Int)) (BA I I BV) I) I<|A2 (An I I) I<|A3 K5<|AH I (fun hc0=>?_) (fun hc0=>?_)
 ·try simp only [dz] at hc0
  obtain⟨k,hk⟩: ∃k,kms[i]? =some k:=⟨_,List.getElem?_eq_getElem (by omega)⟩
  have hkb:=hbb k (List.mem_of_getElem? hk)
  have hkl:=hlb k (List.mem_of_getElem? hk)
  refine Cd (a:=ka) Bf (by omega) (fun gb hgb hcp=>?_)
  subst hgb
  rw [show star (CQ 5 44) (kms.drop i)=star (CQ 5 44) ([]++k::kms.drop (i+1)) from by rw [J9 hk];rfl]
  refine Hi 5 44 [] k (kms.drop (i+1)) ?_
  rw [List.nil_append]
  refine AA<|A5 K4<|A7 fun _ K6=>AG<|A4 fun _ K7=>A2 (A1 I BB) I<|A2 (A6 I CL (v:=sl (some gb) kms.length kc)) I<|wM I I<|A2 (AT i I I BV C6 (hj:=by omega)) I ?_
  refine A2 (A1 I C4) I<|A2 (AU (i:=i) (j:=17) (y:=k) I Bg (hl:=NB hX hk) (hv:=Es k)) I ?_
  refine AB (AE e8 I (hs:=Ot (l:=k.e.b) (a:=k.ba) (cap:=k.bc) (hl:=hkb))) I I I ?_
  rintro _ _ ⟨⟨⟩,rfl,hA⟩
  simp only [ca] at hA
  subst hA
  refine A3 K7<|A4 fun _ K8=>A2 (A1 I BB) I<|A2 (A6 I CL (v:=sl (some gb) kms.length kc)) I<|wM I I<|A2 (AT i I I BV C6 (hj:=by omega)) I ?_
  refine A2 (A1 I Ca) I<|A2 (AU (i:=i) (j:=18) (y:=k) I EP (hl:=NB hX hk) (hv:=GF k)) I ?_
  refine AB (AE cf48 I (hs:=Wg (l:=k.e.ls) (a:=k.la) (cap:=k.lc) (hl:=hkl))) I I I ?_
  rintro _ _ ⟨⟨⟩,rfl,hA⟩
  simp only [ca] at hA
  subst hA
  refine A3 K8<|AD<|A2 (A1 I BB) I<|A2 (A6 I CL (v:=sl (some gb) kms.length kc)) I<|wM I I<|A2 (AT i I I BV C6 (hj:=by omega)) I ?_
  refine A2 (A1 I E4) I<|AX (Aq (⟨⟨k.e.ix,77,k.e.b,k.e.ls⟩,k.ba,k.bc,k.la,k.lc⟩:KM) I I Fw (i:=i) (j:=16) (hl:=NB hX hk) (hu:=XG _ _ _ _ _)) I I ?_
  rintro _ _ rfl
  refine AW<|A5 K6<|AD<|wM I I<|A2 (AN (j:=1) I I) I<|wA I I<|AW<|Az (K3 ⟨i+1,xs.set i (⟨⟨k.e.ix,77,k.e.b,k.e.ls⟩,k.ba,k.bc,k.la,k.lc⟩:KM)⟩ (⟨by (try dsimp only);omega,by(try dsimp only);rw [List.length_set];exact hxl,WG hX⟩) (by (try dsimp only);omega))
 try simp only [dz] at hc0
 refine Aj ?_
 exact hnorm.go () (Ke rfl)

theorem new3_ct{room:Int} :Ct Tryz.prog 13 [.int .i64 room] [] (fun g:Nat=>.pointer (some ⟨g,0,none⟩)) (fun g=> [cl g 24 [.int .i64 room,.int .i64 0,.slice none 0 0]]):=by
 refine AY (n:=6) Tryz.func13 I I I fun F w0 Q hret hnorm hp=>?_
 change WC _ _ _ _ _ _ _ (F)
 refine A4 fun _ K1=>wA I I<|A3 K1<|A4 fun _ K2=>wM I I<|A2 (AL (v:=(.agg ([.int .i64 room,.int .i64 0,.slice none 0 0]:List Value).toArray)) (Ah TI I) I) I<|AB (Ay (xs:= [.int .i64 room,.int .i64 0,.slice none 0 0]) I I) I I I ?_
 rintro _ _ ⟨b5,rfl,rfl⟩
 refine wA I I<|A3 K2<|AK ?_
 exact hret.gf b5 (BR rfl rfl)

theorem X8{X:Ao}{v:Value}{kvs:List KV}{ao:Option Addr}{cap:Nat}{room tick:Int}(hV:Sv [X] v 19 EC kvs ao cap)(hOK: ∀k∈kvs,Lh X k)(hn:kvs.length<=100000000)(hbb: ∀k∈kvs,k.b.l.length<=900000000000)(hlb: ∀k∈kvs,k.ls.l.length<=900000000000):Ct Tryz.prog 18 [(.agg ([.int .i64 room,.int .i64 tick,v]:List Value).toArray)] [X] (fun g:Nat × {g:List KM × Option Nat × Nat // g.1.map KM.e=kvs.map KV.kp} =>.pointer (some ⟨g.1,0,none⟩)) (fun g=> [X,cl g.1 24 [.int .i64 room,.int .i64 tick,sl g.2.1.2.1 g.2.1.1.length g.2.1.2.2],Aa g.2.1.2.1 g.2.1.2.2 19 83 BH g.2.1.1,star (CQ 5 44) g.2.1.1]):=by
 refine AY (n:=6) Tryz.func18 I I I fun F w0 Q hret hnorm hp=>?_
 change WC _ _ _ _ _ _ _ (_::F)
 refine A4 fun _ K1=>AB (Ay (xs:= [.int .i64 room,.int .i64 tick,v]) I I) I I I ?_
 rintro _ _ ⟨b1,rfl,rfl⟩
 refine wA I I<|A3 K1<|A4 fun _ K2=>A2 (AI (vs:= [.int .i64 room,.int .i64 tick,v]) I Fv) I<|AB (AE fp I (hs:=NJ (X:=X) (kvs:=kvs) (room:=room) (tick:=tick) hV hOK hn hbb hlb)) I I I ?_
 rintro _ _ ⟨⟨⟨kms,ka,kc⟩,hkm⟩,rfl,hA⟩
 simp only [ca] at hA
 subst hA
 refine AB (AZ MJ) I I I ?_
 rintro _ _ ⟨b3,rfl,rfl⟩
 refine AX (AV (ys:= [.int .i64 room,.int .i64 tick,sl ka kms.length kc]) I I Gx (h1:=by simp [BD,Value.cells,Value.oneCell',sl]) (hr:=I)) I I ?_
 rintro _ _ rfl
 refine A3 K2<|A4 fun _ K3=>wA I I<|A3 K3<|AK ?_
 exact hret.gf (b3,⟨(kms,ka,kc),hkm⟩) (BR rfl rfl)
end Go.Proofs.YtoakfknnaiapiaaGreat
/-
 States handed out:what is owned of them,told apart by kind. (Conditions:none;no program in sight.)
-/
set_option maxRecDepth 20000
namespace Go.SvM
open Go.SL Go.ShM Go.RowKit
section
variable {α β : Type} {w : World} {R : List Ao}
theorem UL{F:α ->Ao}{a b:List α}(h:sat w (star F a::star F b::R)):sat w (star F (a++b)::R):=by
 unfold star at*
 have h1:=Bb.1 h
 have h2:=Bb.1 (AS (List.perm_middle (l₁:=a.map F)) h1)
 refine Bb.2 ?_
 rw [List.map_append]
 refine AS ?_ h2
 rw [List.append_assoc,<-List.append_assoc,<-List.append_assoc]
 exact List.Perm.append_right _ List.perm_append_comm
theorem IM{F:β ->Ao}{g:α ->β}(l:List α):star F (l.map g)=star (fun x=>F (g x)) l:=by unfold star;rw [List.map_map];rfl
theorem Kl{F G H:α ->Ao}(hF: ∀x,F x=F7 [G x,H x]): ∀ {l:List α} {R:List Ao},sat w (star F l::R) ->sat w (star G l::star H l::R)
 | [],R,h=>EX (EX (EB h))
 |x::l,R,h=>by
  have h1:=DZ.1 h
  rw [hF x] at h1
  have h2:=Bb.1 h1
  have h3:=AS (show ([G x,H x]++star F l::R).Perm (star F l::(G x::H x::R)) from List.perm_middle (l₁:= [G x,H x])) h2
  have h4:=Kl hF h3
  have h5:sat w (G x::star G l::(H x::star H l::R)):=by
   refine AS ?_ h4
   refine List.Perm.trans (List.Perm.cons _ (show (star H l::G x::H x::R).Perm (G x::(H x::star H l::R)) from ?_)) (List.Perm.swap _ _ _)
   exact(List.Perm.swap _ _ _).trans (List.Perm.cons _ (List.Perm.swap _ _ _))
  have h6:=DZ.2 h5
  have h7:=AS (List.Perm.swap _ _ _) (AS (List.Perm.refl _) h6)
  have h8:sat w (H x::star H l::star G (x::l)::R):=by
   refine AS ?_ h6
   exact(List.Perm.swap _ _ _).trans (List.Perm.cons _ (List.Perm.swap _ _ _))
  exact AS (List.Perm.swap _ _ _) (DZ.2 h8)
theorem Ns{F:β ->Ao}{g:α ->List β} : ∀ {l:List α} {R:List Ao},sat w (star (fun s=>star F (g s)) l::R) ->sat w (star F (l.flatMap g)::R)
 | [],R,h=>EX (EB h)
 |x::l,R,h=>by
  have h1:=DZ.1 h
  have h2:=Ns (AS (List.Perm.swap _ _ _) h1)
  rw [List.flatMap_cons]
  exact UL (AS (List.Perm.swap _ _ _) h2)
end
structure GS where
 room:Int
 tick:Int
 p:PG KM
def GG(s:GS):List Value:= [.int .i64 s.room,.int .i64 s.tick,sl s.p.a s.p.l.length s.p.cap]
theorem encGS:Enc GG 3:=⟨fun _=>rfl,fun x v hv=>by
 simp only [GG,List.mem_cons,List.not_mem_nil,or_false] at hv
 rcases hv with rfl|rfl|rfl <;>rfl⟩
def Gf(tK tU tL:TypeId)(s:GS):Ao:=F7 [JK tK 19 BH s.p,star (CQ tU tL) s.p.l]
def HO(k:KM):PB:=⟨k.ba,k.bc,k.e.b⟩
def HN(k:KM):PG Ls:=⟨k.la,k.lc,k.e.ls⟩
def E9(gs:List GS):List KM:=gs.flatMap fun s=>s.p.l
theorem Xa{tK tU tL:TypeId}{gs:List GS}{w:World}{R:List Ao}(h:sat w (star (Gf tK tU tL) gs::R)):
  sat w (star (JK tK 19 BH) (gs.map GS.p)::star (IH tU) ((E9 gs).map HO)::star (JK tL 2 C9) ((E9 gs).map HN)::R):=by
 have h1:=Kl (G:=fun s:GS=>JK tK 19 BH s.p) (H:=fun s:GS=>star (CQ tU tL) s.p.l) (fun _=>rfl) h
 have h2:=Ns (g:=fun s:GS=>s.p.l) (AS (List.Perm.swap _ _ _) h1)
 have h3:=Kl (G:=fun k:KM=>IH tU (HO k)) (H:=fun k:KM=>JK tL 2 C9 (HN k)) (fun _=>rfl) h2
 rw [IM,IM,IM]
 refine AS ?_ h3
 exact(List.Perm.cons _ (List.Perm.swap _ _ _)).trans (List.Perm.swap _ _ _)
def Ea(gs:List GS)(k:Nat)(l:List KM)(i:Nat):List KM:=E9 (gs.take k)++l.take i
theorem Zv(gs:List GS)(k:Nat)(l:List KM):Ea gs k l 0=E9 (gs.take k):=by unfold Ea;rw [List.take_zero,List.append_nil]
theorem M5{gs:List GS}{k i:Nat}{l:List KM}{x:KM}(h:l[i]? =some x):Ea gs k l i++ [x]=Ea gs k l (i+1):=by unfold Ea;rw [BZ h,List.append_assoc]
theorem Zu{gs:List GS}{k:Nat}{s:GS}(h:gs[k]? =some s):Ea gs k s.p.l s.p.l.length=E9 (gs.take (k+1)):=by
 unfold Ea E9
 rw [List.take_length,BZ h,List.flatMap_append]
 simp
theorem V0{gs:List GS}{k i:Nat}{s:GS}(h:gs[k]? =some s):(Ea gs k s.p.l i).length<=(E9 gs).length:=by
 have e:gs=gs.take k++s::gs.drop (k+1):=by rw [<-J9 h,List.take_append_drop]
 have h1:E9 gs=E9 (gs.take k)++(s.p.l++E9 (gs.drop (k+1))):=by
  conv=>lhs;rw [e]
  unfold E9
  rw [List.flatMap_append,List.flatMap_cons]
 unfold Ea
 rw [h1,List.length_append,List.length_append,List.length_append,List.length_take]
 omega
def ixz:Ix:=⟨List.replicate 16 0#8,rfl⟩
def Dq(k i:Nat):KM:=⟨⟨ixz,((1000*k+i:Nat):Int),[],[]⟩,none,0,none,0⟩
end Go.SvM
namespace Go.SvM
open Go.SL Go.ShM Go.RowKit
theorem Wc{α:Type}{T:TypeId}{e:Nat}{f:α ->List Value}(hE:Enc f e){ps:List (PG α)}{A:List Ao}{w:World}(hA:Has A (star (JK T e f) ps))(h:sat w A): ∀(k:Nat) (p:PG α),ps[k]? =some p ->Sv [star (JK T e f) ps] (sl p.a p.l.length p.cap) e f p.l (p.a.map fun g=>⟨g,0,none⟩) p.cap:=fun k p hp=>by
 obtain⟨R,hR⟩:=hA
 have h1:=Gb k hp (AS hR h)
 have f1:=B1 (a:=p.a) (cap:=p.cap) (e:=e) (T:=T) (f:=f) (l:=p.l) Has.here h1
 exact Sv.star (F:=JK T e f) k hp (BM (T:=T) hE f1.1 f1.2)
end Go.SvM
namespace Go.Proofs.YtoakfknnaiapiaaGreat
open Go.RowKit Go.SL Go.ShM Go.SvM
set_option maxHeartbeats 1000000
set_option maxRecDepth 20000
set_option linter.all false
theorem cf7:DF Tryz.prog 7=true:=by kernel_rfl
theorem cf36:DF Tryz.prog 36=true:=by kernel_rfl
theorem el22:el Tryz.prog 22=some (1,24):=by kernel_rfl
theorem GM:Tryz.prog.underlying 34=some (.slice 24):=by kernel_rfl
theorem Vn:Tryz.prog.underlying 86=some (.slice 22):=by kernel_rfl
theorem zr22:zr Tryz.prog 22=some [.slice none 0 0]:=by kernel_rfl
theorem Qm(n:Int):Er [(0,16),(16,1),(17,1),(18,1)] [(1,.int .i64 n)] [.int .u8 0,.int .u8 0,.int .u8 0,.int .u8 0,.int .u8 0,.int .u8 0,.int .u8 0,.int .u8 0,.int .u8 0,.int .u8 0,.int .u8 0,.int .u8 0,.int .u8 0,.int .u8 0,.int .u8 0,.int .u8 0,.int .i64 0,.slice none 0 0,.slice none 0 0]=some (FM ixz n (.slice none 0 0) (.slice none 0 0)):=by kernel_rfl

theorem VK{X:Ao}{v:Value}{gs:List GS}{ao:Option Addr}{cap:Nat}(hS:Sv [X] v 3 GG gs ao cap)(hn:gs.length<=100000000)(hT:(E9 gs).length<=980000000000)(hb: ∀s∈gs,s.p.l.length<=100000000)(hbb: ∀k∈E9 gs,k.e.b.length<=900000000000)(hlb: ∀k∈E9 gs,k.e.ls.length<=900000000000):Ct Tryz.prog 10 [v] [X,star (Gf 83 5 44) gs] (fun _:Unit=>.bool true) (fun _=> [X]):=by
 refine AY (n:=183) Tryz.func10 I I I fun F w0 Q hret hnorm hp=>?_
 change WC _ _ _ _ _ _ _ (_::_::F)
 refine Cz (fun _ h=>Xa (R:=X::F) (AS (List.Perm.swap _ _ _) h)) ?_
 obtain⟨ps,hps⟩: ∃ps,ps=gs.map GS.p:=⟨_,rfl⟩
 rw [<-hps]
 have hpl:ps.length=gs.length:=by rw [hps];exact List.length_map _
 refine Bu (fun w h=>Wc (T:=83) (e:=19) (f:=BH) encKM (ps:=ps) Bf h) (fun hpv=>?_)
 refine Cz (fun _ h=>BO (e:=1) (T:=45) (f:=Hj) (BO (e:=1) (T:=81) (f:=Xl (α:=Ls)) h)) ?_
 refine A4 fun _ K1=>wA I I<|A3 K1<|A4 fun _ K2=>A2 (Ag (v:=sl none 0 0) I) I<|CJ Hj 1 45 ?_
 refine A3 K2<|A4 fun _ K3=>A2 (Ag (v:=sl none 0 0) rfl) rfl<|A3 K3<|A7 fun _ K4=>A4 fun _ K5=>wA rfl rfl<|A3 K5<|AG<|Ak (σ:=Nat × (Option Nat) × Nat × (Option Nat) × Nat) (fun ⟨k,ba,bc,la,lc⟩=> [(3,sl ba ((E9 (gs.take k)).map HO).length bc),(4,sl la ((E9 (gs.take k)).map HN).length lc),(5,.int .i64 ((k:Nat):Int))]) (fun ⟨k,ba,bc,la,lc⟩=> [Aa ba bc 1 45 Hj ((E9 (gs.take k)).map HO),Aa la lc 1 81 Xl ((E9 (gs.take k)).map HN)]) (fun ⟨k,ba,bc,la,lc⟩=>k<=gs.length) (fun ⟨k,ba,bc,la,lc⟩=>gs.length -k) ⟨0,none,0,none,0⟩ [0,2,7,8,9,10,11,12,13,14,55,56,57,58,59,60,61,62,63,64,65,66,67,68,69,70,71,72,73,74,75,76,77,78,79,80,81,82,83,84,85,86,87,88,89,90,91,92,93,94,95,96,97,98,99,100,101,102,103,104,105,106,107,108,109,110,111,112,113,114,115,116,117,118,119,120,121,122,123,124,125,126,127,128,129,130,131,132,133,134,135,136,137,138,139,140,141,142,143,144,145,146,147,148,149,150,151,152,153,154,155,156,157,158,159,160,161,162,163,164,165,166,167,168,169,170,171,172,173,174,175,176,177,178,179,180,181,182] Cw (by (try dsimp only);rw [show ((E9 (gs.take 0)).map HO)= [] from rfl,show ((E9 (gs.take 0)).map HN)= [] from rfl];repeat (first|with_reducible exact Gv.nil|(with_reducible apply Gv.cons;· (repeat (first|with_reducible exact Ext.here|with_reducible apply Ext.there))))) ?_ ?_ Sub.refl ?_
 ·exact Nat.zero_le _
 ·(try dsimp only);exact(Wk.cons Ch (Wk.cons Ch (Wk.cons Ch Wk.nil)))
 rintro⟨k,ba,bc,la,lc⟩ hk K6 K6
 simp only [List.cons_append,List.nil_append]
 refine A7 fun _ K7=>A4 fun _ K8=>wM I I<|wM I I<|A2 (Al I I GM (hA:=hS)) I ?_
 refine A2 (An I I) I<|A3 K8<|AH I (fun hc0=>?_) (fun hc0=>?_)
 ·try simp only [dz] at hc0
  obtain⟨s,hs⟩: ∃s,gs[k]? =some s:=⟨_,List.getElem?_eq_getElem (by omega)⟩
  have hpk:ps[k]? =some s.p:=by rw [hps,List.getElem?_map,hs];rfl
  have hpb:=hb _ (List.mem_of_getElem? hs)
  have hvk:=hpv k s.p hpk
  rw [<-Zv gs k s.p.l]
  refine AA<|A5 K7<|A7 fun _ K9=>AG<|A4 fun _ K10=>wA rfl rfl<|A3 K10<|AG<|Ak (σ:=Nat × (Option Nat) × Nat × (Option Nat) × Nat) (fun ⟨i,ba2,bc2,la2,lc2⟩=> [(3,sl ba2 ((Ea gs k s.p.l i).map HO).length bc2),(4,sl la2 ((Ea gs k s.p.l i).map HN).length lc2),(6,.int .i64 ((i:Nat):Int))]) (fun ⟨i,ba2,bc2,la2,lc2⟩=> [Aa ba2 bc2 1 45 Hj ((Ea gs k s.p.l i).map HO),Aa la2 lc2 1 81 Xl ((Ea gs k s.p.l i).map HN)]) (fun ⟨i,ba2,bc2,la2,lc2⟩=>i<=s.p.l.length) (fun ⟨i,ba2,bc2,la2,lc2⟩=>s.p.l.length -i) ⟨0,ba,bc,la,lc⟩ [0,2,5,7,8,9,10,11,12,13,14,15,16,17,18,19,20,55,56,57,58,59,60,61,62,63,64,65,66,67,68,69,70,71,72,73,74,75,76,77,78,79,80,81,82,83,84,85,86,87,88,89,90,91,92,93,94,95,96,97,98,99,100,101,102,103,104,105,106,107,108,109,110,111,112,113,114,115,116,117,118,119,120,121,122,123,124,125,126,127,128,129,130,131,132,133,134,135,136,137,138,139,140,141,142,143,144,145,146,147,148,149,150,151,152,153,154,155,156,157,158,159,160,161,162,163,164,165,166,167,168,169,170,171,172,173,174,175,176,177,178,179,180,181,182] Cw D8 ?_ ?_ Sub.refl ?_
  ·exact Nat.zero_le _
  ·(try dsimp only);exact(Wk.cons Ch (Wk.cons Ch (Wk.cons Ch Wk.nil)))
  rintro⟨i,ba2,bc2,la2,lc2⟩ hi K11 K11
  simp only [List.cons_append,List.nil_append]
  refine A7 fun _ K12=>A4 fun _ K13=>wM I I<|wM I I<|wM I I<|A2 (AO k I I GM Gx (hA:=hS) (hi:=by omega)) I ?_
  refine A2 (A1 I BB) I<|A2 (Af (f:=GG) (i:=k) (j:=2) (u:=sl s.p.a s.p.l.length s.p.cap) I CL (hA:=hS) (hl:=hs) (hv:=I)) I ?_
  refine A2 (AL (v:=.int .i64 ((s.p.l.length:Nat):Int)) (BA I I BV) I) I<|A2 (An I I) I<|A3 K13<|AH I (fun hc1=>?_) (fun hc1=>?_)
  ·try simp only [dz] at hc1
   obtain⟨x,hx⟩: ∃x,s.p.l[i]? =some x:=⟨_,List.getElem?_eq_getElem (by omega)⟩
   have hgl:=V0 (i:=i) hs
   refine AA<|A5 K12<|A7 fun _ K14=>AG<|A4 fun _ K15=>wM I I<|wM I I<|wM I I<|A2 (AO k I I GM Gx (hA:=hS) (hi:=by omega)) I ?_
   refine A2 (A1 I BB) I<|A2 (Af (f:=GG) (i:=k) (j:=2) (u:=sl s.p.a s.p.l.length s.p.cap) I CL (hA:=hS) (hl:=hs) (hv:=I)) I ?_
   refine wM I I<|A2 (AO i I I BV C6 (hA:=hvk) (hi:=by omega)) I ?_
   refine A2 (A1 I C4) I<|A2 (Af (f:=BH) (i:=i) (j:=17) (y:=x) I Bg (hA:=hvk) (hl:=hx) (hv:=Es x)) I ?_
   refine AB (Br (xs:= [sl x.ba x.e.b.length x.bc]) I Fa Yy Gi) I I I ?_
   rintro _ _ ⟨b41,rfl,rfl⟩
   refine AB (B6 (f:=Hj) RD (HO x) I I Fa Fa Zz (l:=((Ea gs k s.p.l i).map HO)) (hb:=by rw [List.length_map];omega)) I I I ?_
   rintro _ _ ⟨a42,cap42,rfl,rfl⟩
   rw [show ((Ea gs k s.p.l i).map HO)++ [HO x]=((Ea gs k s.p.l (i+1)).map HO) from by rw [<-M5 hx,List.map_append];rfl,show ((Ea gs k s.p.l i).map HO).length+1=((Ea gs k s.p.l (i+1)).map HO).length from by rw [<-M5 hx,List.map_append,List.length_append];rfl]
   refine wA I I<|A3 K15<|AD<|wM I I<|wM I I<|wM I I<|A2 (AO k I I GM Gx (hA:=hS) (hi:=by omega)) I ?_
   refine A2 (A1 I BB) I<|A2 (Af (f:=GG) (i:=k) (j:=2) (u:=sl s.p.a s.p.l.length s.p.cap) I CL (hA:=hS) (hl:=hs) (hv:=I)) I ?_
   refine wM I I<|A2 (AO i I I BV C6 (hA:=hvk) (hi:=by omega)) I ?_
   refine A2 (A1 I Ca) I<|A2 (Af (f:=BH) (i:=i) (j:=18) (y:=x) I EP (hA:=hvk) (hl:=hx) (hv:=GF x)) I ?_
   refine AB (Br (xs:= [sl x.la x.e.ls.length x.lc]) I IK eh IC) I I I ?_
   rintro _ _ ⟨b53,rfl,rfl⟩
   refine AB (B6 (f:=Xl) bm (HN x) I I IK IK fZ (l:=((Ea gs k s.p.l i).map HN)) (hb:=by rw [List.length_map];omega)) I I I ?_
   rintro _ _ ⟨a54,cap54,rfl,rfl⟩
   rw [show ((Ea gs k s.p.l i).map HN)++ [HN x]=((Ea gs k s.p.l (i+1)).map HN) from by rw [<-M5 hx,List.map_append];rfl,show ((Ea gs k s.p.l i).map HN).length+1=((Ea gs k s.p.l (i+1)).map HN).length from by rw [<-M5 hx,List.map_append,List.length_append];rfl]
   refine wA I I<|AW<|A5 K14<|AD<|wM I I<|A2 (AN (j:=1) I I) I<|wA I I<|AW<|Az (K11 ⟨i+1,a42,cap42,a54,cap54⟩ (by (try dsimp only);omega) (by (try dsimp only);omega))
  try simp only [dz] at hc1
  obtain rfl:i=s.p.l.length:=by omega
  rw [Zu hs]
  refine Aj<|A5 K9<|AD<|wM I I<|A2 (AN (j:=1) I I) I<|wA I I<|AW<|Az (K6 ⟨k+1,ba2,bc2,la2,lc2⟩ (by (try dsimp only);omega) (by (try dsimp only);omega))
 try simp only [dz] at hc0
 obtain rfl:k=gs.length:=by omega
 rw [List.take_length]
 refine Aj<|A5 K4<|A7 fun _ K16=>A4 fun _ K17=>wM I I<|Cl (fun w h=>B1 (a:=ba) (cap:=bc) (e:=1) (T:=45) (f:=Hj) (l:=(E9 gs).map HO) Bf h) (fun hvBf=>?_)
 have hvB:Sv [Aa ba bc 1 45 Hj ((E9 gs).map HO)] (sl ba ((E9 gs).map HO).length bc) 1 Hj ((E9 gs).map HO) (ba.map fun g=>⟨g,0,none⟩) bc:=BM RD hvBf.1 hvBf.2
 refine AB (AE cf7 rfl (hs:=OR (X:=Aa ba bc 1 45 Hj ((E9 gs).map HO)) (ps:=(E9 gs).map HO) (hS:=hvB) (hn:=by rw [List.length_map];omega) (hb:=fun p hp=>by obtain⟨k,hk,rfl⟩:=List.mem_map.1 hp;exact hbb k hk))) rfl rfl rfl ?_
 rintro _ _ ⟨⟨⟩,rfl,hA⟩
 simp only [ca] at hA
 subst hA
 refine A2 (Au I) I<|wM I I<|wM I I<|Cl (fun w h=>B1 (a:=la) (cap:=lc) (e:=1) (T:=81) (f:=Xl) (l:=(E9 gs).map HN) Bf h) (fun hvLf=>?_)
 have hvL:Sv [Aa la lc 1 81 Xl ((E9 gs).map HN)] (sl la ((E9 gs).map HN).length lc) 1 Xl ((E9 gs).map HN) (la.map fun g=>⟨g,0,none⟩) lc:=BM bm hvLf.1 hvLf.2
 refine AB (AE cf36 rfl (hs:=VN (X:=Aa la lc 1 81 Xl ((E9 gs).map HN)) (ps:=(E9 gs).map HN) (hS:=hvL) (hn:=by rw [List.length_map];omega) (hb:=fun p hp=>by obtain⟨k,hk,rfl⟩:=List.mem_map.1 hp;exact hlb k hk))) rfl rfl rfl ?_
 rintro _ _ ⟨⟨⟩,rfl,hA⟩
 simp only [ca] at hA
 subst hA
 refine A2 (Au I) I<|A2 (A8 I I) I<|A3 K17<|AM I<|AA<|A5 K16<|A7 fun _ K18=>A4 fun _ K19=>wA I I<|A3 K19<|AG ?_
 rw [show star (JK 83 19 BH) ps=star (JK 83 19 BH) (G4 Dq ps 0) from by rw [Wz]]
 refine Ak (σ:=Nat) (fun k=> [(7,.int .i64 ((k:Nat):Int))]) (fun k=> [star (JK 83 19 BH) (G4 Dq ps k)]) (fun k=>k<=gs.length) (fun k=>gs.length -k) (0) [0,2,9,10,11,12,13,14,92,93,94,95,96,97,98,99,100,101,102,103,104,105,106,107,108,109,110,111,112,113,114,115,116,117,118,119,120,121,122,123,124,125,126,127,128,129,130,131,132,133,134,135,136,137,138,139,140,141,142,143,144,145,146,147,148,149,150,151,152,153,154,155,156,157,158,159,160,161,162,163,164,165,166,167,168,169,170,171,172,173,174,175,176,177,178,179,180,181,182] Cw D8 ?_ ?_ Sub.refl ?_
 ·exact Nat.zero_le _
 ·(try dsimp only);exact(Wk.cons Ch Wk.nil)
 rintro k hk K20 K20
 simp only [List.cons_append,List.nil_append]
 refine A7 fun _ K21=>A4 fun _ K22=>wM I I<|wM I I<|A2 (Al I I GM (hA:=hS)) I ?_
 refine A2 (An I I) I<|A3 K22<|AH I (fun hc3=>?_) (fun hc3=>?_)
 ·try simp only [dz] at hc3
  obtain⟨⟨rm,tck,⟨pa,pc,pl⟩⟩,hsk⟩: ∃s,gs[k]? =some s:=⟨_,List.getElem?_eq_getElem (by omega)⟩
  have hpk:ps[k]? =some ⟨pa,pc,pl⟩:=by rw [hps,List.getElem?_map,hsk];rfl
  have hpb:=hb _ (List.mem_of_getElem? hsk)
  dsimp only at hpb
  refine ME (JK 83 19 BH) (G4 Dq ps k) k (x:=⟨pa,pc,pl⟩) (by rw [Lq hpk,if_neg (by omega)]) ?_
  rw [show (JK 83 19 BH) ⟨pa,pc,pl⟩=Aa pa pc 19 83 BH pl from rfl]
  refine AA<|A5 K21<|A7 fun _ K23=>AG<|A4 fun _ K24=>wA I I<|A3 K24<|AG ?_
  rw [show Aa pa pc 19 83 BH pl=Aa pa pc 19 83 BH (Nm (Dq (k+1)) pl 0) from by rw [O0]]
  refine Ak (σ:=Nat) (fun i'=> [(8,.int .i64 ((i':Nat):Int))]) (fun i'=> [Aa pa pc 19 83 BH (Nm (Dq (k+1)) pl i')]) (fun i'=>i'<=pl.length) (fun i'=>pl.length -i') (0) [0,2,7,9,10,11,12,13,14,63,64,65,66,67,68,92,93,94,95,96,97,98,99,100,101,102,103,104,105,106,107,108,109,110,111,112,113,114,115,116,117,118,119,120,121,122,123,124,125,126,127,128,129,130,131,132,133,134,135,136,137,138,139,140,141,142,143,144,145,146,147,148,149,150,151,152,153,154,155,156,157,158,159,160,161,162,163,164,165,166,167,168,169,170,171,172,173,174,175,176,177,178,179,180,181,182] Cw D8 ?_ ?_ Sub.refl ?_
  ·exact Nat.zero_le _
  ·(try dsimp only);exact(Wk.cons Ch Wk.nil)
  rintro i' hi K25 K25
  simp only [List.cons_append,List.nil_append]
  have hol:=J0 (Dq (k+1)) hi
  refine A7 fun _ K26=>A4 fun _ K27=>wM I I<|wM I I<|wM I I<|A2 (AO k I I GM Gx (hA:=hS) (hi:=by omega)) I ?_
  refine A2 (A1 I BB) I<|A2 (Af (f:=GG) (i:=k) (j:=2) (u:=sl pa pl.length pc) I CL (hA:=hS) (hl:=hsk) (hv:=I)) I ?_
  refine A2 (AL (v:=.int .i64 ((pl.length:Nat):Int)) (BA I I BV) I) I<|A2 (An I I) I<|A3 K27<|AH I (fun hc4=>?_) (fun hc4=>?_)
  ·try simp only [dz] at hc4
   refine Cd (a:=pa) Bf (by omega) (fun gb hgb hcp=>?_)
   subst hgb
   refine AA<|A5 K26<|A7 fun _ K28=>AG<|AD<|wM I I<|wM I I<|A2 (AO k I I GM Gx (hA:=hS) (hi:=by omega)) I ?_
   refine A2 (A1 I BB) I<|A2 (Af (f:=GG) (i:=k) (j:=2) (u:=sl (some gb) pl.length pc) I CL (hA:=hS) (hl:=hsk) (hv:=I)) I ?_
   refine wM I I<|wM I I<|A2 (AN (j:=1) I I) I<|A2 (ET (i:=1000) I I) I ?_
   refine wM I I<|A2 (AN I I) I<|A2 (AL (v:=.agg (BH (Dq (k+1) i')).toArray) (Ah Mi I (hf:=Qm _)) I) I ?_
   refine A2 (AT i' I I BV C6 (hj:=by omega)) I ?_
   refine AX (HL (Dq (k+1) i') I I C6 (i:=i') (h1:=encKM.one _)) I I ?_
   rintro _ _ rfl
   rw [Iz (Dq (k+1)) (by omega)]
   refine AW<|A5 K28<|AD<|wM I I<|A2 (AN (j:=1) I I) I<|wA I I<|AW<|Az (K25 (i'+1) (by omega) (by omega))
  try simp only [dz] at hc4
  obtain rfl:i'=pl.length:=by omega
  rw [J1]
  rw [show Aa pa pc 19 83 BH (D9 (Dq (k+1)) 0 pl.length)=(JK 83 19 BH) (Ld Dq k ⟨pa,pc,pl⟩) from rfl]
  refine MD (JK 83 19 BH) (G4 Dq ps k) k (Ld Dq k ⟨pa,pc,pl⟩) (by rw [Ms];omega) ?_
  rw [Qa hpk]
  refine Aj<|A5 K23<|AD<|wM I I<|A2 (AN (j:=1) I I) I<|wA I I<|AW<|Az (K20 (k+1) (by omega) (by omega))
 try simp only [dz] at hc3
 obtain rfl:k=gs.length:=by omega
 rw [<-hpl]
 rw [show star (JK 83 19 BH) (G4 Dq ps ps.length)=star (JK 83 19 BH) ((G4 Dq ps ps.length).drop 0) from rfl]
 refine Cz (fun w h=>BO (e:=1) (T:=22) (f:=LW) h) ?_
 refine Aj<|A5 K18<|A4 fun _ K29=>A2 (Ag (v:=sl none 0 0) I) I<|CJ LW 1 22 ?_
 refine A3 K29<|A7 fun _ K30=>A4 fun _ K31=>wA I I<|A3 K31<|AG<|Gq (U6 83 19 BH Dq) ?_
 refine Ak (σ:=Nat × (List QI) × (Option Nat) × Nat) (fun ⟨k,qs,go,gc⟩=> [(9,sl go qs.length gc),(10,.int .i64 ((k:Nat):Int))]) (fun ⟨k,qs,go,gc⟩=> [star (U6 83 19 BH Dq) qs,star (JK 83 19 BH) ((G4 Dq ps ps.length).drop k),Aa go gc 1 22 LW qs]) (fun ⟨k,qs,go,gc⟩=>k<=gs.length/\qs.length=k/\Yn ps qs) (fun ⟨k,qs,go,gc⟩=>gs.length -k) ⟨0,[],none,0⟩ [0,2,13,14,127,128,129,130,131,132,133,134,135,136,137,138,139,140,141,142,143,144,145,146,147,148,149,150,151,152,153,154,155,156,157,158,159,160,161,162,163,164,165,166,167,168,169,170,171,172,173,174,175,176,177,178,179,180,181,182] Cw D8 ?_ ?_ Sub.refl ?_
 ·exact⟨Nat.zero_le _,rfl,Rf⟩
 ·(try dsimp only);exact(Wk.cons Ch (Wk.cons Ch Wk.nil))
 rintro⟨k,qs,go,gc⟩ ⟨hk,hql,hQ⟩ K32 K32
 simp only [List.cons_append,List.nil_append]
 refine A7 fun _ K33=>A4 fun _ K34=>wM I I<|wM I I<|A2 (Al I I GM (hA:=hS)) I ?_
 refine A2 (An I I) I<|A3 K34<|AH I (fun hc5=>?_) (fun hc5=>?_)
 ·try simp only [dz] at hc5
  obtain⟨⟨rm,tck,⟨pa,pc,pl⟩⟩,hsk⟩: ∃s,gs[k]? =some s:=⟨_,List.getElem?_eq_getElem (by omega)⟩
  have hpk:ps[k]? =some ⟨pa,pc,pl⟩:=by rw [hps,List.getElem?_map,hsk];rfl
  have hpb:=hb _ (List.mem_of_getElem? hsk)
  dsimp only at hpb
  refine MF (JK 83 19 BH) (G4 Dq ps ps.length) k (x:=Ld Dq k ⟨pa,pc,pl⟩) (Qb hpk) ?_
  rw [show (JK 83 19 BH) (Ld Dq k ⟨pa,pc,pl⟩)=Aa pa pc 19 83 BH (D9 (Dq (k+1)) 0 pl.length) from rfl]
  refine Bu (fun w h=>B1 (a:=pa) (cap:=pc) (e:=19) (T:=83) (f:=BH) (l:=(D9 (Dq (k+1)) 0 pl.length)) Bf h) (fun hpf=>?_)
  rw [BL] at hpf
  refine Cz (fun w h=>JA h) ?_
  refine AA<|A5 K33<|A7 fun _ K35=>AG<|A4 fun _ K36=>wM I I<|wM I I<|A2 (AO k I I GM Gx (hA:=hS) (hi:=by omega)) I ?_
  refine A2 (A1 I BB) I<|A2 (Af (f:=GG) (i:=k) (j:=2) (u:=sl pa pl.length pc) I CL (hA:=hS) (hl:=hsk) (hv:=I)) I ?_
  refine wA I I<|A3 K36<|A7 fun _ K37=>A4 fun _ K38=>wA I I<|A3 K38<|AG ?_
  rw [show Jr pa pc pa pc 19 83 BH (D9 (Dq (k+1)) 0 pl.length) (D9 (Dq (k+1)) 0 pl.length)=Jr pa pc pa pc 19 83 BH (D9 (Dq (k+1)) 0 pl.length) (D9 (Dq (k+1)) 0 (pl.length+0)) from rfl]
  refine Ak (σ:=Nat × (Option Nat) × Nat) (fun ⟨i',a',c'⟩=> [(11,sl a' (pl.length+i') c'),(12,.int .i64 ((i':Nat):Int))]) (fun ⟨i',a',c'⟩=> [Jr pa pc a' c' 19 83 BH (D9 (Dq (k+1)) 0 pl.length) (D9 (Dq (k+1)) 0 (pl.length+i'))]) (fun ⟨i',a',c'⟩=>i'<=70) (fun ⟨i',a',c'⟩=>70 -i') ⟨0,pa,pc⟩ [0,2,9,10,13,14,92,93,94,95,96,97,98,99,100,101,102,123,124,125,126,127,128,129,130,131,132,133,134,135,136,137,138,139,140,141,142,143,144,145,146,147,148,149,150,151,152,153,154,155,156,157,158,159,160,161,162,163,164,165,166,167,168,169,170,171,172,173,174,175,176,177,178,179,180,181,182] Cw D8 ?_ ?_ Sub.refl ?_
  ·exact Nat.zero_le _
  ·(try dsimp only);exact(Wk.cons Ch (Wk.cons Ch Wk.nil))
  rintro⟨i',a',c'⟩ hi K39 K39
  simp only [List.cons_append,List.nil_append]
  have hml:=BL (Dq (k+1)) 0 (pl.length+i')
  refine A7 fun _ K40=>A4 fun _ K41=>wM I I<|A2 (An (j:=70) I I) I<|A3 K41<|AH I (fun hc6=>?_) (fun hc6=>?_)
  ·try simp only [dz] at hc6
   refine AA<|A5 K40<|A7 fun _ K42=>AG<|AD<|wM I I<|wM I I<|A2 (AN (j:=1) I I) I<|A2 (ET (i:=1000) I I) I ?_
   refine wM I I<|wM I I<|A2 (AO k I I GM Gx (hA:=hS) (hi:=by omega)) I ?_
   refine A2 (A1 I BB) I<|A2 (Af (f:=GG) (i:=k) (j:=2) (u:=sl pa pl.length pc) I CL (hA:=hS) (hl:=hsk) (hv:=I)) I ?_
   refine A2 (AL (v:=.int .i64 ((pl.length:Nat):Int)) (BA I I BV) I) I<|A2 (AN I I) I<|wM I I<|A2 (MH (r:=((1000*(k+1)+(pl.length+i'):Nat):Int)) I I (JV (by omega) (by omega) (by omega))) I ?_
   refine A2 (AL (v:=.agg (BH (Dq (k+1) (pl.length+i'))).toArray) (Ah Mi I (hf:=Qm _)) I) I ?_
   refine AB (Br (xs:=BH (Dq (k+1) (pl.length+i'))) I BV Ey C6 (hl:=encKM.len _)) I I I ?_
   rintro _ _ ⟨b121,rfl,rfl⟩
   refine AB (MI (l:=(D9 (Dq (k+1)) 0 pl.length)) (l':=(D9 (Dq (k+1)) 0 (pl.length+i'))) encKM (Dq (k+1) (pl.length+i')) I I BV BV Ia (Hr _ _ _) (hlen:=by rw [BL])) I I I ?_
   rintro _ _ ⟨a122,cap122,rfl,rfl⟩
   rw [BL,Lp,Nat.add_assoc]
   refine wA I I<|AW<|A5 K42<|AD<|wM I I<|A2 (AN (j:=1) I I) I<|wA I I<|AW<|Az (K39 ⟨i'+1,a122,cap122⟩ (by dsimp only;omega) (by dsimp only;omega))
  try simp only [dz] at hc6
  obtain rfl:i'=70:=by omega
  refine Bu (fun w h=>I0 (a:=pa) (cap:=pc) (a':=a') (cap':=c') (e:=19) (T:=83) (f:=BH) (l:=(D9 (Dq (k+1)) 0 pl.length)) (l':=(D9 (Dq (k+1)) 0 (pl.length+70))) h) (fun hqf=>?_)
  rw [BL] at hqf
  have hq1:a'≠none:=fun e=>by have:=congrArg List.length (hqf.1 e);rw [BL] at this;simp at this
  have hq2:pl.length+70<=c':=hqf.2
  have hq3:pa=none ->pl.length=0:=fun e=>by have:=congrArg List.length (hpf.1 e);rw [BL] at this;exact this
  have hq4:pl.length<=pc:=hpf.2
  rw [show Jr pa pc a' c' 19 83 BH (D9 (Dq (k+1)) 0 pl.length) (D9 (Dq (k+1)) 0 (pl.length+70))=(U6 83 19 BH Dq) ⟨pa,pc,a',c',pl.length,k⟩ from rfl]
  refine MC (U6 83 19 BH Dq) qs ⟨pa,pc,a',c',pl.length,k⟩ ?_
  refine Aj<|A5 K37<|AD<|wM I I<|wM I I<|AB (Br (xs:= [sl a' (pl.length+70) c']) I Vn zr22 La) I I I ?_
  rintro _ _ ⟨b125,rfl,rfl⟩
  refine AB (B6 (f:=LW) Tm ⟨pa,pc,a',c',pl.length,k⟩ I I Vn Vn el22) I I I ?_
  rintro _ _ ⟨a126,cap126,rfl,rfl⟩
  refine wA I I<|AW<|A5 K35<|AD<|wM I I<|A2 (AN (j:=1) I I) I<|wA I I<|AW<|Az (K32 ⟨k+1,qs++ [⟨pa,pc,a',c',pl.length,k⟩],a126,cap126⟩ (⟨by (try dsimp only);omega,by(try dsimp only);rw [List.length_append,List.length_singleton];omega,OY hQ (p:=⟨pa,pc,pl⟩) (by rw [hql];exact hpk) (by (try dsimp only);omega) hq1 hq2 hq3 hq4 I I I⟩) (by (try dsimp only);omega))
 try simp only [dz] at hc5
 obtain rfl:k=gs.length:=by omega
 refine Aj<|A5 K30<|A7 fun _ K43=>A4 fun _ K44=>wA I I<|A3 K44<|AG<|Ak (σ:=Nat) (fun k2=> [(13,.int .i64 ((k2:Nat):Int))]) (fun k2=> []) (fun k2=>k2<=gs.length) (fun k2=>gs.length -k2) (0) [0,9] Cw D8 ?_ ?_ Sub.refl ?_
 ·exact Nat.zero_le _
 ·(try dsimp only);exact(Wk.cons Ch Wk.nil)
 rintro k2 hk2 K45 K45
 simp only [List.cons_append,List.nil_append]
 refine A7 fun _ K46=>A4 fun _ K47=>wM I I<|wM I I<|A2 (Al I I GM (hA:=hS)) I ?_
 refine A2 (An I I) I<|A3 K47<|AH I (fun hc7=>?_) (fun hc7=>?_)
 ·try simp only [dz] at hc7
  refine Cd (a:=go) Bf (by omega) (fun gb hgb hcg=>?_)
  subst hgb
  obtain⟨q,hq⟩: ∃q,qs[k2]? =some q:=⟨_,List.getElem?_eq_getElem (by omega)⟩
  obtain⟨hqj,hqa,hqc,hqn,hqm,⟨qa,qcp,ql⟩,hpk,hea,hec,hel⟩:=hQ k2 q hq
  dsimp only at hea hec hel
  obtain⟨⟨rm,tck,p2⟩,hsk⟩: ∃s,gs[k2]? =some s:=⟨_,List.getElem?_eq_getElem (by omega)⟩
  have hp2:ps[k2]? =some p2:=by rw [hps,List.getElem?_map,hsk];rfl
  obtain rfl:p2=⟨qa,qcp,ql⟩:=Option.some.inj (hp2.symm.trans hpk)
  have hpb:=hb _ (List.mem_of_getElem? hsk)
  dsimp only at hpb
  have hsn:=Sv.star (F:=(U6 83 19 BH Dq)) k2 hq (U1 (T:=83) (g:=Dq) encKM hqa hqc)
  have hse:=Sv.star (F:=(U6 83 19 BH Dq)) k2 hq (U2 (T:=83) (g:=Dq) encKM hqn hqm)
  rw [hqj] at hsn hse
  have hse':=hse
  rw [hea,hec,hel] at hse'
  refine AA<|A5 K46<|A7 fun _ K48=>AG<|A4 fun _ K49=>wA I I<|A3 K49<|AG<|Ak (σ:=Nat) (fun i2=> [(14,.int .i64 ((i2:Nat):Int))]) (fun i2=> []) (fun i2=>i2<=q.n+70) (fun i2=>q.n+70 -i2) (0) [0,9,13,127,128,129,130,131,132] Cw D8 ?_ ?_ Sub.refl ?_
  ·exact Nat.zero_le _
  ·(try dsimp only);exact(Wk.cons Ch Wk.nil)
  rintro i2 hi2 K50 K50
  simp only [List.cons_append,List.nil_append]
  refine A7 fun _ K51=>A4 fun _ K52=>wM I I<|wM I I<|wM I I<|A2 (AT k2 I I Vn La (hi:=by omega)) I ?_
  refine A2 (AU (f:=LW) (i:=k2) (j:=0) I CL (hl:=hq)) I ?_
  refine A2 (AL (v:=.int .i64 (((q.n+70):Nat):Int)) (BA I I BV) I) I<|A2 (An I I) I<|A3 K52<|AH I (fun hc8=>?_) (fun hc8=>?_)
  ·try simp only [dz] at hc8
   refine AA<|A5 K51<|A7 fun _ K53=>AG<|A4 fun _ K54=>wM I I<|wM I I<|A2 (AT k2 I I Vn La (hi:=by omega)) I ?_
   refine A2 (AU (f:=LW) (i:=k2) (j:=0) I CL (hl:=hq)) I ?_
   refine wM I I<|A2 (AO i2 I I BV C6 (hA:=hsn) (hi:=by rw [BL];omega)) I ?_
   refine A2 (A1 I E4) I<|A2 (AL (v:=.int .i64 (((1000*(k2+1)+i2):Nat):Int)) (Af (f:=BH) (i:=i2) (j:=16) (y:=Dq (k2+1) (0+i2)) I BF (hA:=hsn) (hl:=G8 (by omega)) (hv:=M8 _)) (by show Value.int .i64 (((1000*(k2+1)+(0+i2):Nat)):Int)=_;rw [Nat.zero_add])) I ?_
   refine wM I I<|A2 (AN (j:=1) I I) I<|A2 (ET (i:=1000) I I) I ?_
   refine wM I I<|A2 (AN I I) I<|A2 (HI (Bj I I)) I ?_
   refine wM I I<|wM I I<|wM I I<|wM I I<|A2 (AO k2 I I GM Gx (hA:=hS) (hi:=by omega)) I ?_
   refine A2 (A1 I BB) I<|A2 (Af (f:=GG) (i:=k2) (j:=2) (u:=sl qa ql.length qcp) I CL (hA:=hS) (hl:=hsk) (hv:=I)) I ?_
   refine A2 (AL (v:=.int .i64 ((ql.length:Nat):Int)) (BA I I BV) I) I<|A2 (An I I) I<|wM I I<|Ae 165 I (fun hg55=>?_) (fun hg55=>?_)
   ·try simp only [dz] at hg55
    refine wM I I<|wM I I<|A2 (AO k2 I I GM Gx (hA:=hS) (hi:=by omega)) I ?_
    refine A2 (A1 I BB) I<|A2 (Af (f:=GG) (i:=k2) (j:=2) (u:=sl qa ql.length qcp) I CL (hA:=hS) (hl:=hsk) (hv:=I)) I ?_
    refine wM I I<|A2 (AO i2 I I BV C6 (hA:=hse') (hi:=by rw [BL];omega)) I ?_
    refine A2 (A1 I E4) I<|A2 (AL (v:=.int .i64 (((1000*(k2+1)+i2):Nat):Int)) (Af (f:=BH) (i:=i2) (j:=16) (y:=Dq (k2+1) (0+i2)) I BF (hA:=hse') (hl:=G8 (by omega)) (hv:=M8 _)) (by show Value.int .i64 (((1000*(k2+1)+(0+i2):Nat)):Int)=_;rw [Nat.zero_add])) I ?_
    refine wM I I<|A2 (AN (j:=1) I I) I<|A2 (ET (i:=1000) I I) I ?_
    refine wM I I<|A2 (AN I I) I<|A2 (HI (Bj I I)) I ?_
    refine A2 (AC I I) I<|A2 (A8 I I) I<|A3 K54<|AM I<|AA<|A5 K53<|AD<|wM I I<|A2 (AN (j:=1) I I) I<|wA I I<|AW<|Az (K50 (i2+1) (by omega) (by omega))
   try simp only [dz] at hg55
   refine wK I<|wK I<|wK I<|wK I<|wK I<|wK I<|wK I<|wK I<|wK I<|wK I<|wK I<|wK I<|wK I<|wK I<|wK I ?_
   refine A2 (A8 I I) I<|A2 (A8 I I) I<|A3 K54<|AM I<|AA<|A5 K53<|AD<|wM I I<|A2 (AN (j:=1) I I) I<|wA I I<|AW<|Az (K50 (i2+1) (by omega) (by omega))
  try simp only [dz] at hc8
  refine Aj<|A5 K48<|AD<|wM I I<|A2 (AN (j:=1) I I) I<|wA I I<|AW<|Az (K45 (k2+1) (by omega) (by omega))
 try simp only [dz] at hc7
 refine Aj<|A5 K43<|A4 fun _ K56=>wA I I<|A3 K56<|AK ?_
 exact hret.gf () (BR rfl rfl)
end Go.Proofs.YtoakfknnaiapiaaGreat
namespace Go.Proofs.YtoakfknnaiapiaaGreat
open Go.RowKit Go.SL Go.ShM Go.SvM
set_option maxHeartbeats 1000000
set_option maxRecDepth 20000
set_option linter.all false
theorem gh:DF Tryz.prog 9=true:=by kernel_rfl
theorem cf13:DF Tryz.prog 13=true:=by kernel_rfl
theorem fx:DF Tryz.prog 14=true:=by kernel_rfl
theorem fw:DF Tryz.prog 15=true:=by kernel_rfl
theorem fu:DF Tryz.prog 16=true:=by kernel_rfl
theorem ft:DF Tryz.prog 17=true:=by kernel_rfl
theorem cf18:DF Tryz.prog 18=true:=by kernel_rfl
theorem QK:SG Tryz.prog 29=some ([.pointer none,.pointer none],[(0,1),(1,1)]):=by kernel_rfl
theorem F6:sz Tryz.prog 29=some 2:=by kernel_rfl
theorem IB:tk Tryz.prog 29=some (some 2):=by kernel_rfl
theorem JH:zr Tryz.prog 29=some [.pointer none,.pointer none]:=by kernel_rfl
theorem FA{kms:List KM}{ka:Option Nat}{kc:Nat}{A:List Ao}{w:World}(h1:Has A (Aa ka kc 19 83 BH kms))(h2:Has A (star (CQ 5 44) kms))(h:sat w A):Sv [Aa ka kc 19 83 BH kms] (sl ka kms.length kc) 19 EC (kms.map KM.kv) (ka.map fun g=>⟨g,0,none⟩) kc/\ ∀k∈kms.map KM.kv,Lh (star (CQ 5 44) kms) k:=by
 have f:=B1 (a:=ka) (cap:=kc) (e:=19) (T:=83) (f:=BH) (l:=kms) h1 h
 refine⟨Et (BM encKM f.1 f.2),fun k hk=>?_⟩
 obtain⟨m,hm,rfl⟩:=List.mem_map.1 hk
 have v:=Ez (tU:=5) (tL:=44) h2 h m hm
 exact⟨v.hb,v.hl⟩
theorem ZS{room:Int} :Ct Tryz.prog 13 [.int .i64 room] [] (fun g:Nat=>.pointer (some ⟨g,0,none⟩)) (fun g=> [Du 24 83 5 44 g room ⟨0,[]⟩]):=
 new3_ct.reg fun g F w z=>⟨g,rfl,E5 (s:=⟨0,[]⟩) [] none 0 rfl (by
  have z1:=EX (F:=(CQ 5 44)) (BO (e:=19) (T:=83) (f:=BH) z)
  exact AS (show Gv _ [cl g 24 [.int .i64 room,.int .i64 0,.slice none 0 0],Aa none 0 19 83 BH [],star (CQ 5 44) []] F from Gv.cons (Ext.there (Ext.there Ext.here)) (Gv.cons (Ext.there Ext.here) (Gv.cons Ext.here Gv.nil))) z1)⟩
theorem X5{X:Ao}{v:Value}{kvs:List KV}{ao:Option Addr}{cap:Nat}{room tick:Int}(hV:Sv [X] v 19 EC kvs ao cap)(hOK: ∀k∈kvs,Lh X k)(hn:kvs.length<=100000000)(hbb: ∀k∈kvs,k.b.l.length<=900000000000)(hlb: ∀k∈kvs,k.ls.l.length<=900000000000):Ct Tryz.prog 18 [(.agg ([.int .i64 room,.int .i64 tick,v]:List Value).toArray)] [X] (fun g:Nat=>.pointer (some ⟨g,0,none⟩)) (fun g=> [X,Du 24 83 5 44 g room ⟨tick,kvs.map KV.kp⟩]):=
 (X8 hV hOK hn hbb hlb).reg fun g F w z=>⟨g.1,rfl,by
  simp only [List.cons_append,List.nil_append] at z ⊢
  have h4:=AS (show Gv _ [cl g.1 24 [.int .i64 room,.int .i64 tick,sl g.2.1.2.1 g.2.1.1.length g.2.1.2.2],Aa g.2.1.2.1 g.2.1.2.2 19 83 BH g.2.1.1,star (CQ 5 44) g.2.1.1] (X::F) from Gv.cons (Ext.there Ext.here) (Gv.cons (Ext.there Ext.here) (Gv.cons (Ext.there Ext.here) Gv.nil))) z
  exact AS (List.Perm.swap _ _ _) (E5 (s:=⟨tick,kvs.map KV.kp⟩) g.2.1.1 g.2.1.2.1 g.2.1.2.2 g.2.2 h4)⟩
theorem Zh{kms:List KM}{kvs:List KV}(e:kms.map KM.e=kvs.map KV.kp){N:Nat}(h: ∀k∈kvs,k.b.l.length<=N): ∀k∈kms,k.e.b.length<=N:=fun k hk=>by
 have:k.e∈kvs.map KV.kp:=by rw [<-e];exact List.mem_map.2 ⟨k,hk,rfl⟩
 obtain⟨v,hv,he⟩:=List.mem_map.1 this
 rw [<-he];exact h v hv
theorem Uy{kms:List KM}{kvs:List KV}(e:kms.map KM.e=kvs.map KV.kp){N:Nat}(h: ∀k∈kvs,k.ls.l.length<=N): ∀k∈kms,k.e.ls.length<=N:=fun k hk=>by
 have:k.e∈kvs.map KV.kp:=by rw [<-e];exact List.mem_map.2 ⟨k,hk,rfl⟩
 obtain⟨v,hv,he⟩:=List.mem_map.1 this
 rw [<-he];exact h v hv
theorem Kr{kms:List KM}{Q:KV ->Prop}(h: ∀k∈kms,Q k.kv): ∀k∈kms.map KM.kv,Q k:=fun k hk=>by
 obtain⟨m,hm,rfl⟩:=List.mem_map.1 hk
 exact h m hm

theorem VE{v:Value}{room tick:Int}(h:0<=room/\room<=1073741824):Ct Tryz.prog 4 [(.agg ([.int .i64 room,.int .i64 tick,v]:List Value).toArray),.bool true] [] (fun g:Nat × Nat=>.tuple #[(.agg ([.pointer (some ⟨g.1,0,none⟩),.pointer (some ⟨g.2,0,none⟩)]:List Value).toArray),.bool true]) (fun g=> [Eu 90 102 5 g.1 room ⟨0,[]⟩,Du 24 83 5 44 g.2 room ⟨0,[]⟩]):=by
 refine AY (n:=78) Tryz.func4 I I I fun F w0 Q hret hnorm hp=>?_
 change WC _ _ _ _ _ _ _ (F)
 refine A4 fun _ K1=>AB (Ay (xs:= [.int .i64 room,.int .i64 tick,v]) I I) I I I ?_
 rintro _ _ ⟨b2,rfl,rfl⟩
 refine AB (AZ JH) I I I ?_
 rintro _ _ ⟨b4,rfl,rfl⟩
 refine wA I I<|A3 K1<|A7 fun _ K2=>A4 fun _ K3=>wM I I<|A3 K3<|Ad I<|A4 fun _ K4=>A2 (A1 I Dx) I<|A2 (A6 I BF (v:=.int .i64 room)) I<|AB (AE YD I (hs:=ZT (room:=room) h)) I I I ?_
 rintro _ _ ⟨s13,rfl,hA⟩
 simp only [ca] at hA
 subst hA
 refine wM I I<|A2 (BE I) I<|A2 (BN I) I<|wA I I<|wA I I<|A3 K4<|A7 fun _ K5=>A4 fun _ K6=>A2 (A1 I Dx) I<|A2 (A6 I BF (v:=.int .i64 room)) I<|A2 (Bt I I) I<|wM I I<|Ae 21 I (fun hg7=>?_) (fun hg7=>?_)
 ·try simp only [dz] at hg7
  refine wK I<|wK I<|wK I<|A2 (AC I I) I<|A3 K6<|Ad I ?_
  exfalso
  first|omega|(simp_all;omega)
 try simp only [dz] at hg7
 refine A2 (A1 I Dx) I<|A2 (A6 I BF (v:=.int .i64 room)) I<|A2 (DI I I) I ?_
 refine A2 (A8 I I) I<|A3 K6<|AH I (fun hc1=>?_) (fun hc1=>?_)
 ·try simp only [dz] at hc1
  exfalso
  first|omega|(simp_all;omega)
 try simp only [dz] at hc1
 refine AA<|A5 K5<|A4 fun _ K8=>wM I I<|A2 (A1 I Dx) I<|A2 (A6 I BF (v:=.int .i64 room)) I<|AB (AE cf13 I (hs:=ZS (room:=room))) I I I ?_
 rintro _ _ ⟨w36,rfl,hA⟩
 simp only [ca] at hA
 subst hA
 refine A2 (AL (v:=(.agg ([.pointer (some ⟨s13,0,none⟩),.pointer (some ⟨w36,0,none⟩)]:List Value).toArray)) (Ah QK I) I) I<|wM I I<|A2 (NW I I IA) I ?_
 refine wM I I<|wM I I<|A2 (Ab (i:=0) (j:=0) I I) I<|A2 (AC I I) I<|AX (AV (ys:= [.pointer (some ⟨s13,0,none⟩),.pointer (some ⟨w36,0,none⟩)]) I I F6 (h1:=by simp [BD,Value.cells,Value.oneCell']) (hr:=I)) I I ?_
 rintro _ _ rfl
 refine wA I I<|A3 K8<|AK ?_
 exact hret.gf (s13,w36) (Cp rfl rfl rfl IB)

theorem VD{v:Value}{room tick:Int}(h:room<0\/1073741824<room):Ct Tryz.prog 4 [(.agg ([.int .i64 room,.int .i64 tick,v]:List Value).toArray),.bool true] [] (fun _:Unit=>.tuple #[(.agg ([.pointer none,.pointer none]:List Value).toArray),.bool true]) (fun _=> []):=by
 refine AY (n:=78) Tryz.func4 I I I fun F w0 Q hret hnorm hp=>?_
 change WC _ _ _ _ _ _ _ (F)
 refine A4 fun _ K1=>AB (Ay (xs:= [.int .i64 room,.int .i64 tick,v]) I I) I I I ?_
 rintro _ _ ⟨b2,rfl,rfl⟩
 refine AB (AZ JH) I I I ?_
 rintro _ _ ⟨b4,rfl,rfl⟩
 refine wA I I<|A3 K1<|A7 fun _ K2=>A4 fun _ K3=>wM I I<|A3 K3<|Ad I<|A4 fun _ K4=>A2 (A1 I Dx) I<|A2 (A6 I BF (v:=.int .i64 room)) I<|AB (AE YD I (hs:=Wv (room:=room) h)) I I I ?_
 rintro _ _ ⟨⟨⟩,rfl,hA⟩
 simp only [ca] at hA
 subst hA
 refine wM I I<|A2 (BE I) I<|A2 (BN I) I<|wA I I<|wA I I<|A3 K4<|A7 fun _ K5=>A4 fun _ K6=>A2 (A1 I Dx) I<|A2 (A6 I BF (v:=.int .i64 room)) I<|A2 (Bt I I) I<|wM I I<|Ae 21 I (fun hg7=>?_) (fun hg7=>?_)
 ·try simp only [dz] at hg7
  refine wK I<|wK I<|wK I<|A2 (AC I I) I<|A3 K6<|Ad I<|A4 fun _ K8=>A2 (Ah QK I) I<|wM I I<|A2 (Fo I I IA) I ?_
  refine wM I I<|wM I I<|A2 (Ab (i:=190) (j:=190) I I) I<|A2 (AC I I) I<|AX (AV (ys:= [.pointer none,.pointer none]) I I F6 (h1:=by simp [BD,Value.cells,Value.oneCell']) (hr:=I)) I I ?_
  rintro _ _ rfl
  refine wA I I<|A3 K8<|AK ?_
  exact hret.gf () (Cp rfl rfl rfl IB)
 try simp only [dz] at hg7
 refine A2 (A1 I Dx) I<|A2 (A6 I BF (v:=.int .i64 room)) I<|A2 (DI I I) I ?_
 refine A2 (A8 I I) I<|A3 K6<|AH I (fun hc1=>?_) (fun hc1=>?_)
 ·try simp only [dz] at hc1
  refine A4 fun _ K9=>A2 (Ah QK I) I<|wM I I<|A2 (Fo I I IA) I ?_
  refine wM I I<|wM I I<|A2 (Ab (i:=190) (j:=190) I I) I<|A2 (AC I I) I<|AX (AV (ys:= [.pointer none,.pointer none]) I I F6 (h1:=by simp [BD,Value.cells,Value.oneCell']) (hr:=I)) I I ?_
  rintro _ _ rfl
  refine wA I I<|A3 K9<|AK ?_
  exact hret.gf () (Cp rfl rfl rfl IB)
 try simp only [dz] at hc1
 exfalso
 first|omega|(simp_all;omega)

theorem RS{X:Ao}{v:Value}{kvs:List KV}{ao:Option Addr}{cap:Nat}{room tick:Int}(hV:Sv [X] v 19 EC kvs ao cap)(hOK: ∀k∈kvs,Lh X k)(hn:kvs.length<=100000000)(hbb: ∀k∈kvs,k.b.l.length<=900000000000)(hlb: ∀k∈kvs,k.ls.l.length<=900000000000)(hu:C0 (kvs.map KV.kp)<=4000000000000)(hwf:Wf room ⟨tick,kvs.map KV.kp⟩):Ct Tryz.prog 4 [(.agg ([.int .i64 room,.int .i64 tick,v]:List Value).toArray),.bool false] [X] (fun g:Nat × Nat=>.tuple #[(.agg ([.pointer (some ⟨g.1,0,none⟩),.pointer (some ⟨g.2,0,none⟩)]:List Value).toArray),.bool true]) (fun g=> [X,Eu 90 102 5 g.1 room ⟨tick,kvs.map KV.kp⟩,Du 24 83 5 44 g.2 room ⟨tick,kvs.map KV.kp⟩]):=by
 refine AY (n:=78) Tryz.func4 I I I fun F w0 Q hret hnorm hp=>?_
 change WC _ _ _ _ _ _ _ (_::F)
 refine A4 fun _ K1=>AB (Ay (xs:= [.int .i64 room,.int .i64 tick,v]) I I) I I I ?_
 rintro _ _ ⟨b2,rfl,rfl⟩
 refine AB (AZ JH) I I I ?_
 rintro _ _ ⟨b4,rfl,rfl⟩
 refine wA I I<|A3 K1<|A7 fun _ K2=>A4 fun _ K3=>wM I I<|A3 K3<|AM I<|AA<|A5 K2<|A4 fun _ K4=>A2 (AI (vs:= [.int .i64 room,.int .i64 tick,v]) I Fv) I<|AB (AE fx I (hs:=RH (X:=X) (kvs:=kvs) (room:=room) (tick:=tick) hV hOK hn hbb hlb)) I I I ?_
 rintro _ _ ⟨⟨⟨kms,a45,c45⟩,hkm⟩,rfl,hA⟩
 simp only [ca] at hA
 subst hA
 (try dsimp only at hkm)
 have hkl:kms.length=kvs.length:=by have q:=congrArg List.length hkm;rw [List.length_map,List.length_map] at q;exact q
 refine Cl (fun w h=>FA (kms:=kms) (ka:=a45) (kc:=c45) Bf Bf h) (fun hov=>?_)
 obtain⟨hoV,hoO⟩:=hov
 refine AB (AZ MJ) I I I ?_
 rintro _ _ ⟨b8,rfl,rfl⟩
 refine AX (AV (ys:= [.int .i64 room,.int .i64 tick,sl a45 kms.length c45]) I I Gx (h1:=by simp [BD,Value.cells,Value.oneCell',sl]) (hr:=I)) I I ?_
 rintro _ _ rfl
 refine A3 K4<|A4 fun _ K5=>A2 (AI (vs:= [.int .i64 room,.int .i64 tick,sl a45 kms.length c45]) I Fv) I<|AB (AE fw I (hs:=Ct.un0 (Xs:= [Aa a45 c45 19 83 BH kms,star (CQ 5 44) kms]) (X7 (X:=F7 [Aa a45 c45 19 83 BH kms,star (CQ 5 44) kms]) (kvs:=kms.map KM.kv) (room:=room) (tick:=tick) (hS:=hoV.pk Has.here) (hOK:=fun k hk=>⟨(hoO k hk).1.pk (Has.there Has.here),(hoO k hk).2.pk (Has.there Has.here)⟩) (hn:=by rw [List.length_map];omega) (hlb:=Kr (Uy hkm hlb)) (hwf:=by rw [CO,hkm];exact hwf)))) I I I ?_
 rintro _ _ ⟨s48,rfl,hA⟩
 simp only [ca] at hA
 subst hA
 rw [CO,hkm]
 refine wM I I<|A2 (BE I) I<|A2 (BN I) I<|wA I I<|wA I I<|A3 K5<|A7 fun _ K6=>A4 fun _ K7=>A2 (AI (vs:= [.int .i64 room,.int .i64 tick,sl a45 kms.length c45]) I Fv) I<|A2 (AI (vs:= [.int .i64 room,.int .i64 tick,v]) I Fv) I<|AB (AE gh I (hs:=Ct.un0 (Xs:= [Aa a45 c45 19 83 BH kms,star (CQ 5 44) kms,X]) (Is (X:=F7 [Aa a45 c45 19 83 BH kms,star (CQ 5 44) kms,X]) (kvs:=kms.map KM.kv) (kvs':=kvs) (room:=room) (tick:=tick) (hS:=hoV.pk Has.here) (hS':=hV.pk (Has.there (Has.there Has.here))) (hO:=fun k hk=>⟨(hoO k hk).1.pk (Has.there Has.here),(hoO k hk).2.pk (Has.there Has.here)⟩) (hO':=fun k hk=>⟨(hOK k hk).1.pk (Has.there (Has.there Has.here)),(hOK k hk).2.pk (Has.there (Has.there Has.here))⟩) (he:=by rw [CO,hkm]) (hn:=by rw [List.length_map];omega) (hb:=Kr (Zh hkm hbb)) (hl:=Kr (Uy hkm hlb))))) I I I ?_
 rintro _ _ ⟨⟨⟩,rfl,hA⟩
 simp only [ca] at hA
 subst hA
 refine A2 (Au I) I<|A3 K7<|AM I<|AA<|A5 K6<|A4 fun _ K8=>A2 (AI (vs:= [.int .i64 room,.int .i64 tick,sl a45 kms.length c45]) I Fv) I<|AB (AE fu I (hs:=QO (kms:=kms) (ka:=a45) (kc:=c45) (room:=room) (tick:=tick) (by omega) (Zh hkm hbb) (Uy hkm hlb))) I I I ?_
 rintro _ _ ⟨⟨⟩,rfl,hA⟩
 simp only [ca] at hA
 subst hA
 refine A3 K8<|A7 fun _ K9=>A4 fun _ K10=>A2 (AI (vs:= [.int .i64 room,.int .i64 tick,v]) I Fv) I<|AB (AE ft I (hs:=Og (X:=X) (kvs:=kvs) (room:=room) (tick:=tick) hV hOK hn hlb hu hwf)) I I I ?_
 rintro _ _ ⟨⟨⟩,rfl,hA⟩
 simp only [ca] at hA
 subst hA
 refine A2 (Au I) I<|A3 K10<|AM I<|AA<|A5 K9<|A4 fun _ K11=>wM I I<|A2 (AI (vs:= [.int .i64 room,.int .i64 tick,v]) I Fv) I<|AB (AE cf18 I (hs:=X5 (X:=X) (kvs:=kvs) (room:=room) (tick:=tick) hV hOK hn hbb hlb)) I I I ?_
 rintro _ _ ⟨w70,rfl,hA⟩
 simp only [ca] at hA
 subst hA
 refine A2 (AL (v:=(.agg ([.pointer (some ⟨s48,0,none⟩),.pointer (some ⟨w70,0,none⟩)]:List Value).toArray)) (Ah QK I) I) I<|wM I I<|A2 (NW I I IA) I ?_
 refine wM I I<|wM I I<|A2 (Ab (i:=0) (j:=0) I I) I<|A2 (AC I I) I<|AX (AV (ys:= [.pointer (some ⟨s48,0,none⟩),.pointer (some ⟨w70,0,none⟩)]) I I F6 (h1:=by simp [BD,Value.cells,Value.oneCell']) (hr:=I)) I I ?_
 rintro _ _ rfl
 refine wA I I<|A3 K11<|AK ?_
 exact hret.gf (s48,w70) (Cp rfl rfl rfl IB)

theorem VF{X:Ao}{v:Value}{kvs:List KV}{ao:Option Addr}{cap:Nat}{room tick:Int}(hV:Sv [X] v 19 EC kvs ao cap)(hOK: ∀k∈kvs,Lh X k)(hn:kvs.length<=100000000)(hbb: ∀k∈kvs,k.b.l.length<=900000000000)(hlb: ∀k∈kvs,k.ls.l.length<=900000000000)(hu:C0 (kvs.map KV.kp)<=4000000000000)(hwf: ¬Wf room ⟨tick,kvs.map KV.kp⟩):Ct Tryz.prog 4 [(.agg ([.int .i64 room,.int .i64 tick,v]:List Value).toArray),.bool false] [X] (fun _:Unit=>.tuple #[(.agg ([.pointer none,.pointer none]:List Value).toArray),.bool true]) (fun _=> [X]):=by
 refine AY (n:=78) Tryz.func4 I I I fun F w0 Q hret hnorm hp=>?_
 change WC _ _ _ _ _ _ _ (_::F)
 refine A4 fun _ K1=>AB (Ay (xs:= [.int .i64 room,.int .i64 tick,v]) I I) I I I ?_
 rintro _ _ ⟨b2,rfl,rfl⟩
 refine AB (AZ JH) I I I ?_
 rintro _ _ ⟨b4,rfl,rfl⟩
 refine wA I I<|A3 K1<|A7 fun _ K2=>A4 fun _ K3=>wM I I<|A3 K3<|AM I<|AA<|A5 K2<|A4 fun _ K4=>A2 (AI (vs:= [.int .i64 room,.int .i64 tick,v]) I Fv) I<|AB (AE fx I (hs:=RH (X:=X) (kvs:=kvs) (room:=room) (tick:=tick) hV hOK hn hbb hlb)) I I I ?_
 rintro _ _ ⟨⟨⟨kms,a45,c45⟩,hkm⟩,rfl,hA⟩
 simp only [ca] at hA
 subst hA
 (try dsimp only at hkm)
 have hkl:kms.length=kvs.length:=by have q:=congrArg List.length hkm;rw [List.length_map,List.length_map] at q;exact q
 refine Cl (fun w h=>FA (kms:=kms) (ka:=a45) (kc:=c45) Bf Bf h) (fun hov=>?_)
 obtain⟨hoV,hoO⟩:=hov
 refine AB (AZ MJ) I I I ?_
 rintro _ _ ⟨b8,rfl,rfl⟩
 refine AX (AV (ys:= [.int .i64 room,.int .i64 tick,sl a45 kms.length c45]) I I Gx (h1:=by simp [BD,Value.cells,Value.oneCell',sl]) (hr:=I)) I I ?_
 rintro _ _ rfl
 refine A3 K4<|A4 fun _ K5=>A2 (AI (vs:= [.int .i64 room,.int .i64 tick,sl a45 kms.length c45]) I Fv) I<|AB (AE fw I (hs:=Ct.un0 (Xs:= [Aa a45 c45 19 83 BH kms,star (CQ 5 44) kms]) (X6 (X:=F7 [Aa a45 c45 19 83 BH kms,star (CQ 5 44) kms]) (kvs:=kms.map KM.kv) (room:=room) (tick:=tick) (hS:=hoV.pk Has.here) (hOK:=fun k hk=>⟨(hoO k hk).1.pk (Has.there Has.here),(hoO k hk).2.pk (Has.there Has.here)⟩) (hn:=by rw [List.length_map];omega) (hlb:=Kr (Uy hkm hlb)) (hwf:=by rw [CO,hkm];exact hwf)))) I I I ?_
 rintro _ _ ⟨⟨⟩,rfl,hA⟩
 simp only [ca] at hA
 subst hA
 refine wM I I<|A2 (BE I) I<|A2 (BN I) I<|wA I I<|wA I I<|A3 K5<|A7 fun _ K6=>A4 fun _ K7=>A2 (AI (vs:= [.int .i64 room,.int .i64 tick,sl a45 kms.length c45]) I Fv) I<|A2 (AI (vs:= [.int .i64 room,.int .i64 tick,v]) I Fv) I<|AB (AE gh I (hs:=Ct.un0 (Xs:= [Aa a45 c45 19 83 BH kms,star (CQ 5 44) kms,X]) (Is (X:=F7 [Aa a45 c45 19 83 BH kms,star (CQ 5 44) kms,X]) (kvs:=kms.map KM.kv) (kvs':=kvs) (room:=room) (tick:=tick) (hS:=hoV.pk Has.here) (hS':=hV.pk (Has.there (Has.there Has.here))) (hO:=fun k hk=>⟨(hoO k hk).1.pk (Has.there Has.here),(hoO k hk).2.pk (Has.there Has.here)⟩) (hO':=fun k hk=>⟨(hOK k hk).1.pk (Has.there (Has.there Has.here)),(hOK k hk).2.pk (Has.there (Has.there Has.here))⟩) (he:=by rw [CO,hkm]) (hn:=by rw [List.length_map];omega) (hb:=Kr (Zh hkm hbb)) (hl:=Kr (Uy hkm hlb))))) I I I ?_
 rintro _ _ ⟨⟨⟩,rfl,hA⟩
 simp only [ca] at hA
 subst hA
 refine A2 (Au I) I<|A3 K7<|AM I<|AA<|A5 K6<|A4 fun _ K8=>A2 (AI (vs:= [.int .i64 room,.int .i64 tick,sl a45 kms.length c45]) I Fv) I<|AB (AE fu I (hs:=QO (kms:=kms) (ka:=a45) (kc:=c45) (room:=room) (tick:=tick) (by omega) (Zh hkm hbb) (Uy hkm hlb))) I I I ?_
 rintro _ _ ⟨⟨⟩,rfl,hA⟩
 simp only [ca] at hA
 subst hA
 refine A3 K8<|A7 fun _ K9=>A4 fun _ K10=>A2 (AI (vs:= [.int .i64 room,.int .i64 tick,v]) I Fv) I<|AB (AE ft I (hs:=Oh (X:=X) (kvs:=kvs) (room:=room) (tick:=tick) hV hOK hn hlb hu hwf)) I I I ?_
 rintro _ _ ⟨⟨⟩,rfl,hA⟩
 simp only [ca] at hA
 subst hA
 refine A2 (Au I) I<|A3 K10<|Ad I<|A4 fun _ K11=>A2 (Ah QK I) I<|wM I I<|A2 (Fo I I IA) I ?_
 refine wM I I<|wM I I<|A2 (Ab (i:=192) (j:=192) I I) I<|A2 (AC I I) I<|AX (AV (ys:= [.pointer none,.pointer none]) I I F6 (h1:=by simp [BD,Value.cells,Value.oneCell']) (hr:=I)) I I ?_
 rintro _ _ rfl
 refine wA I I<|A3 K11<|AK ?_
 exact hret.gf () (Cp rfl rfl rfl IB)
end Go.Proofs.YtoakfknnaiapiaaGreat
/-
 Stores,requests and scripts as they are handed in. (Conditions:none;generic over the program.)
-/
set_option maxRecDepth 20000
namespace Go.SvM
open Go.SL Go.ShM Go.RowKit Go.ChangeShapes Go.WideShapes
section
variable {H : Type} {enc : TypeId × Value → H} {P : Program} {W : World} {base : Nat} {sp : Nat → Bool} {hd : Bool} {m : DataW H → Nat} {N : Nat}
theorem dI(c:List Value)(h:Fits enc P W base sp hd m N [.int .u8] c): ∃a:B8,c=eU .u8 a/\True:=by
 simp only [Fits] at h
 obtain⟨i,_,rfl,hw,rfl⟩:=h
 exact⟨BitVec.ofInt 8 i,by have:=Js [i] (by simpa using hw);simpa using this,trivial⟩
theorem w32{i:Int}(h:(Lit.int .u32 i).wf=true):Value.int .u32 i= .int .u32 ((BitVec.ofInt 32 i).toNat:Int):=by
 have hb:0<=i/\i<4294967296:=by simp [Lit.wf,IntKind.min,IntKind.max,IntKind.signed,IntKind.bits] at h;omega
 congr 1
 rw [BitVec.toNat_ofInt];omega
theorem w8{i:Int}(h:(Lit.int .u8 i).wf=true):Value.int .u8 i= .int .u8 ((BitVec.ofInt 8 i).toNat:Int):=by
 have hb:0<=i/\i<256:=by simp [Lit.wf,IntKind.min,IntKind.max,IntKind.signed,IntKind.bits] at h;omega
 congr 1
 rw [BitVec.toNat_ofInt];omega
theorem dL(c:List Value)(h:Fits enc P W base sp hd m N [.int .u32,.int .i64] c): ∃a:Ls,c=C9 a/\True:=by
 simp only [Fits] at h
 obtain⟨i,_,rfl,hw,j,_,rfl,_,rfl⟩:=h
 exact⟨(BitVec.ofInt 32 i,j),by rw [w32 hw];rfl,trivial⟩
theorem Xe(hm:Meas m){tU:TypeId}{q:Nat}(hk:LX P q tU=some [.int .u8])(hz:P.cellsOf tU=1){v:Value}(h:SlOf enc P W base sp hd m N tU v): ∃b:Pt,v=b.v/\Sv [Lo W] b.v 1 (eU .u8 (w:=8)) b.l b.ao b.cap/\b.l.length<=N:=by
 obtain⟨l,ao,cap,h1,h2,h3,h4⟩:=h.typed hm hk (f:=eU .u8 (w:=8)) dI
 rw [hz] at h1
 refine⟨⟨l,ao,cap⟩,h1.val,?_,h3⟩
 have:=h1.val;subst this;exact h1
theorem dK(hm:Meas m){tL:TypeId}{q:Nat}(hk:LX P q tL=some [.int .u32,.int .i64])(hz:P.cellsOf tL=2){v:Value}(h:SlOf enc P W base sp hd m N tL v): ∃b:VL,v=b.v/\Sv [Lo W] b.v 2 C9 b.l b.ao b.cap/\b.l.length<=N:=by
 obtain⟨l,ao,cap,h1,h2,h3,h4⟩:=h.typed hm hk (f:=C9) dL
 rw [hz] at h1
 refine⟨⟨l,ao,cap⟩,h1.val,?_,h3⟩
 have:=h1.val;subst this;exact h1
def fO(l:List Int)(h:l.length=16):Ix:=⟨l.map (BitVec.ofInt 8),by simpa using h⟩
theorem dM(hm:Meas m){tU tL:TypeId}{q:Nat}(hkU:LX P q tU=some [.int .u8])(hzU:P.cellsOf tU=1)(hkL:LX P q tL=some [.int .u32,.int .i64])(hzL:P.cellsOf tL=2)(c:List Value)(h:Fits enc P W base sp hd m N [.ints .u8 16,.int .i64,.slice tU,.slice tL] c):
  ∃k:KV,c=EC k/\(Lh (Lo W) k/\k.b.l.length<=N/\k.ls.l.length<=N):=by
 simp only [Fits] at h
 obtain⟨l,_,rfl,⟨hl,hw⟩,n,_,rfl,_,v,_,rfl,hv,v2,_,rfl,hv2,rfl⟩:=h
 obtain⟨b,rfl,hb,hbn⟩:=Xe hm hkU hzU hv
 obtain⟨b2,rfl,hb2,hbn2⟩:=dK hm hkL hzL hv2
 exact⟨⟨fO l hl,n,b,b2⟩,by rw [Js l hw];rfl,⟨hb,hb2⟩,hbn,hbn2⟩
def eb(W:World)(N:Nat)(kvs:List KV):Prop:=(∀k∈kvs,Lh (Lo W) k)/\kvs.length<=N/\(∀k∈kvs,k.b.l.length<=N)/\ ∀k∈kvs,k.ls.l.length<=N
theorem Mn(hm:Meas m){t tK tU tL:TypeId}{q:Nat}{v:Value}{d:DataW H}{ps:List MemPlace}{r:Reach}{b0:Nat}{fs:Array Field}(ht:P.underlying t=some (.struct fs))(hval:Value.okWide P W r b0 t v)(h:DataW.Trod enc P W base sp hd t v d ps)
  (hk:LX P (q+1) t=some [.int .i64,.int .i64,.slice tK]) (hkK:LX P q tK=some [.ints .u8 16,.int .i64,.slice tU,.slice tL]) (hzK:P.cellsOf tK=19) (hkU:LX P q tU=some [.int .u8]) (hzU:P.cellsOf tU=1) (hkL:LX P q tL=some [.int .u32,.int .i64]) (hzL:P.cellsOf tL=2) (hN:m d<=N):
  ∃(room tick:Int) (v':Value) (kvs:List KV) (ao:Option Addr) (cap:Nat),v= .agg [.int .i64 room,.int .i64 tick,v'].toArray/\(Lit.int .i64 room).wf=true/\(Lit.int .i64 tick).wf=true/\Sv [Lo W] v' 19 EC kvs ao cap/\eb W N kvs:=by
 obtain⟨cs,rfl,hf⟩:=Us hm ht hval h hk hN
 simp only [Fits] at hf
 obtain⟨room,_,rfl,w1,tick,_,rfl,w2,v',_,rfl,hv,rfl⟩:=hf
 obtain⟨l,ao,cap,h1,h2,h3,h4⟩:=hv.typed hm hkK (dM hm hkU hzU hkL hzL)
 rw [hzK] at h1
 exact⟨room,tick,v',l,ao,cap,rfl,w1,w2,h1,fun k hk=>(h4 k hk).1,h3,fun k hk=>(h4 k hk).2.1,fun k hk=>(h4 k hk).2.2⟩
theorem dJ(hm:Meas m){tU:TypeId}{q:Nat}(hkU:LX P q tU=some [.int .u8])(hzU:P.cellsOf tU=1)(c:List Value)(h:Fits enc P W base sp hd m N [.int .u8,.ints .u8 16,.int .i64,.int .i64,.int .i64,.int .u32,.int .i64,.slice tU] c):
  ∃r:Rq,c=CP r/\(Sv [Lo W] r.b.v 1 (eU .u8 (w:=8)) r.b.l r.b.ao r.b.cap/\r.b.l.length<=N):=by
 simp only [Fits] at h
 obtain⟨k,_,rfl,wk,l,_,rfl,⟨hl,hw⟩,n,_,rfl,_,a,_,rfl,_,ln,_,rfl,_,wh,_,rfl,ww,un,_,rfl,_,v,_,rfl,hv,rfl⟩:=h
 obtain⟨b,rfl,hb,hbn⟩:=Xe hm hkU hzU hv
 exact⟨⟨BitVec.ofInt 8 k,fO l hl,n,a,ln,BitVec.ofInt 32 wh,un,b⟩,by rw [Js l hw,w8 wk,w32 ww];rfl,hb,hbn⟩
structure AcQ where
 on:Int
 kind:Int
 at_:Int
 stop:Int
 r:Rq
def Cj(a:AcQ):List Value:=.int .i64 a.on:: .int .i64 a.kind:: .int .i64 a.at_:: .int .i64 a.stop::CP a.r
theorem Ee(a:AcQ):(Cj a).length=27:=by unfold Cj;simp [B5]
theorem J8(a:AcQ):(Cj a)[2]? =some (.int .i64 a.at_):=rfl
theorem Tq(a:AcQ):((Cj a).drop 4).take 23=CP a.r:=List.take_of_length_le (Nat.le_of_eq (B5 a.r))
theorem Jn(a:AcQ):(Cj a)[26]? =some a.r.b.v:=G5 a.r
theorem J7(a:AcQ):((Cj a).drop 5).take 16=a.r.ix.l.flatMap (eU .u8):=Ci a.r
theorem Zx(hm:Meas m){tU:TypeId}{q:Nat}(hkU:LX P q tU=some [.int .u8])(hzU:P.cellsOf tU=1)(c:List Value)(h:Fits enc P W base sp hd m N [.int .i64,.int .i64,.int .i64,.int .i64,.int .u8,.ints .u8 16,.int .i64,.int .i64,.int .i64,.int .u32,.int .i64,.slice tU] c):
  ∃a:AcQ,c=Cj a/\(Sv [Lo W] a.r.b.v 1 (eU .u8 (w:=8)) a.r.b.l a.r.b.ao a.r.b.cap/\a.r.b.l.length<=N):=by
 rw [Fits] at h;obtain⟨x1,_,rfl,_,h⟩:=h
 rw [Fits] at h;obtain⟨x2,_,rfl,_,h⟩:=h
 rw [Fits] at h;obtain⟨x3,_,rfl,_,h⟩:=h
 rw [Fits] at h;obtain⟨x4,_,rfl,_,h⟩:=h
 obtain⟨r,rfl,hr⟩:=dJ hm hkU hzU _ h
 exact⟨⟨x1,x2,x3,x4,r⟩,rfl,hr⟩
def gV(W:World)(N:Nat)(qs:List AcQ):Prop:=qs.length<=N/\ ∀a∈qs,Sv [Lo W] a.r.b.v 1 (eU .u8 (w:=8)) a.r.b.l a.r.b.ao a.r.b.cap/\a.r.b.l.length<=N
theorem Ut(hm:Meas m){t tA tU:TypeId}{q:Nat}{v:Value}{d:DataW H}{ps:List MemPlace}{r:Reach}{b0:Nat}(ht:P.underlying t=some (.slice tA))(hval:Value.okWide P W r b0 t v)(h:DataW.Trod enc P W base sp hd t v d ps)
  (hk:LX P (q+1) t=some [.slice tA]) (hkA:LX P q tA=some [.int .i64,.int .i64,.int .i64,.int .i64,.int .u8,.ints .u8 16,.int .i64,.int .i64,.int .i64,.int .u32,.int .i64,.slice tU]) (hzA:P.cellsOf tA=27) (hkU:LX P q tU=some [.int .u8]) (hzU:P.cellsOf tU=1) (hN:m d<=N):
  ∃(qs:List AcQ) (ao:Option Addr) (cap:Nat),Sv [Lo W] v 27 Cj qs ao cap/\gV W N qs:=by
 obtain⟨a0,len,cap0,rfl⟩:=okWide_slice ht hval
 obtain⟨fuel,hf⟩:=h
 have hfit:=If hm (q+1) t _ fuel _ _ hk hf hN
 simp only [Fits,Value.cells] at hfit
 obtain⟨v',_,e,hv,rfl⟩:=hfit
 simp only [List.cons.injEq,and_true] at e
 subst e
 obtain⟨l,ao,cap,h1,h2,h3,h4⟩:=hv.typed hm hkA (Zx hm hkU hzU)
 rw [hzA] at h1
 exact⟨l,ao,cap,h1,h3,h4⟩
end
end Go.SvM
/-
 A script played:what is kept of it. (Conditions:none;no program in sight.)
-/
set_option maxRecDepth 20000
namespace Go.SvM
open Go.SL Go.ShM Go.RowKit
def Rq.wb(r:Rq)(p:Pt):Rq:= { r with b:=p }
theorem aA(r:Rq)(p:Pt):(CP r).set 22 p.v=CP (r.wb p):=by
 have hl:(r.ix.l.flatMap (eU .u8 (w:=8))).length=16:=by rw [C7,r.ix.h]
 unfold CP Rq.wb
 rw [List.set_cons_succ,List.set_append_right _ _ (by rw [hl];omega),hl]
 rfl
theorem YF{room:Int}{s:Sv1}{t:Int}{r:Rq}{p:Pt}(h:p.l=r.b.l):Eg room s t (r.wb p)=Eg room s t r:=by
 obtain⟨l,ao,cap⟩:=p
 simp only at h
 subst h
 rfl
theorem GV(a:AcQ):(Cj a)[0]? =some (.int .i64 a.on):=rfl
theorem Ib(a:AcQ):(Cj a)[1]? =some (.int .i64 a.kind):=rfl
theorem aB(a:AcQ):(Cj a)[3]? =some (.int .i64 a.stop):=rfl
theorem RE(a:AcQ):(Cj a)[21]? =some (.int .i64 a.r.num):=D4 a.r
theorem RF(a:AcQ):((Cj a).drop 0).take 27=Cj a:=List.take_of_length_le (Nat.le_of_eq (Ee a))
structure KI where
 n:Nat
 ao:Option Addr
 cap:Nat
def Rv(k:KI):List Value:= [.slice k.ao k.n k.cap]
theorem fY:Enc Rv 1:=⟨fun _=>rfl,fun x v hv=>by simp [Rv] at hv;subst hv;rfl⟩
structure DoneG (rp:Rp) where
 na:Option Nat
 nc:Nat
 ba:Option Nat
 bc:Nat
 GX:Ao
 na2:Option Addr
 nc2:Nat
 ba2:Option Addr
 bc2:Nat
 hb2:Sv [GX] (.slice ba2 rp.bs.length bc2) 1 (eU .u8 (w:=8)) rp.bs ba2 bc2
 ha:Option Nat
 hc:Nat
 ma:Option Nat
 mc:Nat
 ia:Option Nat
 ic:Nat
 za:Option Nat
 zc:Nat
end Go.SvM
