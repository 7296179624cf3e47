/-
  Contracts of functions that the claim reaches, or the logic and the plain laws that they rest on, or the row over them. (Conditions: none beyond the statement.)
-/
import Derived.Test.YtoakfknnaiapiaaGreatRows
import Derived.Test.YtoakfknnaiapiaaGreatKAA
import Derived.Test.YtoakfknnaiapiaaGreatLibB
import Derived.Test.YtoakfknnaiapiaaGreatLibA
import Derived.Shelf.Sort.Plain
import Derived.Shelf.Slices.In.SortNone
import Derived.Shelf.SlSortCmp.NoneTotal
set_option linter.all false
namespace Go.Proofs.YtoakfknnaiapiaaGreat
open Go.RowKit Go.SL Go.ShM Go.SvM
set_option maxHeartbeats 1000000
set_option maxRecDepth 20000
set_option linter.all false
theorem LY:aj Tryz.prog 41=some (16,5):=by kernel_rfl
theorem RQ:DF Tryz.prog 37=true:=by kernel_rfl
theorem ff:DF Tryz.prog 54=true:=by kernel_rfl
theorem fV:dH Tryz.prog 94=some [(0,41),(16,3)]:=by kernel_rfl
theorem dF:fo Tryz.prog 90 0=some (0,4):=by kernel_rfl
theorem Ku:fo Tryz.prog 90 2=some (2,3):=by kernel_rfl
theorem Df:fo Tryz.prog 90 3=some (3,3):=by kernel_rfl
theorem De:fo Tryz.prog 90 4=some (4,88):=by kernel_rfl
theorem El:fo Tryz.prog 102 0=some (0,45):=by kernel_rfl
theorem E0:fo Tryz.prog 102 1=some (1,100):=by kernel_rfl
theorem CE:Tryz.prog.follows .mixedOrders=true:=by kernel_rfl
theorem fE:SG Tryz.prog 90=some ([.bool false,.int .i64 0,.int .i64 0,.int .i64 0,.map none],[(0,1),(1,1),(2,1),(3,1),(4,1)]):=by kernel_rfl
theorem Fw:sz Tryz.prog 3=some 1:=by kernel_rfl
theorem Hk:sz Tryz.prog 94=some 17:=by kernel_rfl
theorem BF:tk Tryz.prog 3=some none:=by kernel_rfl
theorem tk4:tk Tryz.prog 4=some none:=by kernel_rfl
theorem Cv:tk Tryz.prog 41=some (some 16):=by kernel_rfl
theorem Bg:tk Tryz.prog 45=some none:=by kernel_rfl
theorem Fg:tk Tryz.prog 88=some none:=by kernel_rfl
theorem Ff:tk Tryz.prog 94=some (some 17):=by kernel_rfl
theorem Fb:tk Tryz.prog 100=some none:=by kernel_rfl
theorem Vg:Tryz.prog.underlying 3=some (.int .i64):=by kernel_rfl
theorem IA:Tryz.prog.underlying 26=some (.pointer 90):=by kernel_rfl
theorem MU:Tryz.prog.underlying 42=some (.int .u32):=by kernel_rfl
theorem BQ:Tryz.prog.underlying 45=some (.slice 5):=by kernel_rfl
theorem FZ:Tryz.prog.underlying 88=some (.map 94 98):=by kernel_rfl
theorem EW:Tryz.prog.underlying 100=some (.map 42 3):=by kernel_rfl
theorem JG:zr Tryz.prog 94=some [.int .u8 0,.int .u8 0,.int .u8 0,.int .u8 0,.int .u8 0,.int .u8 0,.int .u8 0,.int .u8 0,.int .u8 0,.int .u8 0,.int .u8 0,.int .u8 0,.int .u8 0,.int .u8 0,.int .u8 0,.int .u8 0,.int .i64 0]:=by kernel_rfl
theorem zv3: ∀w,(zeroValue 3).run Tryz.prog w= .ok (.int .i64 0) w:=fun w=>by kernel_rfl
theorem zv98: ∀w,(zeroValue 98).run Tryz.prog w= .ok (.pointer none) w:=fun w=>by kernel_rfl
theorem IZ: ∀l:List B8,l.flatMap (eU .u8 (w:=8))=(l.map fun b=>(b.toNat:Int)).map (Value.int .u8)
 | []=>rfl
 |x::l=>by rw [List.flatMap_cons,IZ l];rfl
theorem Qh: ∀ {a b:List B8},a.map (fun b=>(b.toNat:Int))=b.map (fun b=>(b.toNat:Int)) ->a=b
 | [],[],_=>rfl
 | [],_::_,h=>by simp at h
 |_::_,[],h=>by simp at h
 |x::a,y::b,h=>by
  simp only [List.map_cons,List.cons.injEq] at h
  rw [Qh h.2,BitVec.eq_of_toNat_eq (show x.toNat=y.toNat by omega)]
theorem Zk(a b:Ky):(decide (a.1.l.map (fun b=>(b.toNat:Int))=b.1.l.map (fun b=>(b.toNat:Int))) && (decide (a.2=b.2) && true))=decide (a=b):=by
 rw [Bool.and_true,Bool.eq_iff_iff]
 simp only [Bool.and_eq_true,decide_eq_true_eq]
 constructor
 ·rintro⟨h1,h2⟩
  obtain⟨⟨l,hl⟩,n⟩:=a
  obtain⟨⟨l',hl'⟩,n'⟩:=b
  have h3:=Qh h1
  simp only at h2 h3
  subst h2;subst h3;rfl
 ·rintro rfl;exact⟨rfl,rfl⟩
theorem G9:KeyT Tryz.prog 94 By:=Rh Tryz.underlying94 (fun k=>⟨_,rfl⟩) KH
 (fun a b=>by
  have h:=Jq (P:=Tryz.prog) (t:=94) (d:=9999) (xs:=Dt a) (ys:=Dt b) fV (EqL.ag Cv (Jf a) (Jf b) (by rw [IZ,IZ];exact Nh LY (by rw [List.length_map,a.1.h]) (by rw [List.length_map,b.1.h])) (EqL.sc BF (GU a) (GU b) (DN Vg _ _) EqL.nil))
  rw [Zk] at h
  exact h)
 (fun b k w=>PZ Tryz.underlying94 (fun f hf w=>by
  simp only [List.mem_cons,List.not_mem_nil,or_false] at hf
  rcases hf with rfl|rfl
  ·simp only [Sem.run_bind,IOx Cv (Jf k),Result.andThen_ok]
   rw [IZ]
   exact Sl LY (by rw [List.length_map,k.1.h]) w
  ·simp only [Sem.run_bind,F9 BF (GU k),Result.andThen_ok]
   exact OM Vg w) w)
 (fun k=>Nk (Dt k) (fun v hv=>by
  unfold Dt at hv
  rw [IZ] at hv
  rcases List.mem_append.1 hv with h|h
  ·obtain⟨a,_,rfl⟩:=List.mem_map.1 h;exact⟨_,_,rfl⟩
  ·rw [List.mem_singleton] at h;exact⟨_,_,h⟩))
theorem IT:KeyT Tryz.prog 42 Dn:=(Ri (P:=Tryz.prog) .u32 MU).comp (fun w:Bv=>(w.toNat:Int)) (fun a b h=>BitVec.eq_of_toNat_eq (by omega))
theorem cQ: ∀w,(zeroValue 3).run Tryz.prog w= .ok (.int .i64 0) w:=zv3
theorem Ro: ∀w,(zeroValue 98).run Tryz.prog w= .ok (.pointer none) w:=zv98

theorem SU{room:Int}(h:0<=room/\room<=1073741824):Ct Tryz.prog 12 [.int .i64 room] [] (fun g:Nat × Nat=>.tuple #[.pointer (some ⟨g.1,0,none⟩),.int .i64 0]) (fun g=> [cl g.1 90 [.bool true,.int .i64 room,.int .i64 0,.int .i64 (((Ap ([]:List En)):Nat):Int),.map (some g.2)],Bs g.2 By Cc (([]:List En).map En.kp),star (Cb 102 5) ([]:List En)]):=by
 refine AY (n:=14) Tryz.func12 I I I fun F w0 Q hret hnorm hp=>?_
 change WC _ _ _ _ _ _ _ (F)
 obtain⟨h0,h1⟩:=h
 refine A4 fun _ K1=>wA I I<|wA I I<|A3 K1<|A7 fun _ K2=>A4 fun _ K3=>wM I I<|A2 (Bt I I) I<|wM I I<|Ae 6 I (fun hg4=>?_) (fun hg4=>?_)
 ·try simp only [dz] at hg4
  refine wK I<|wK I<|A2 (AC I I) I<|A3 K3<|Ad I ?_
  omega
 try simp only [dz] at hg4
 refine wM I I<|A2 (DI I I) I ?_
 refine A2 (A8 I I) I<|A3 K3<|AH I (fun hc0=>?_) (fun hc0=>?_)
 ·try simp only [dz] at hc0
  omega
 try simp only [dz] at hc0
 refine AA<|A5 K2<|A4 fun _ K5=>wM I I<|AB (FY By Cc) I I I ?_
 rintro _ _ ⟨m11,rfl,rfl⟩
 refine A2 (Ah fE I) I<|AB (Ay I I) I I I ?_
 rintro _ _ ⟨b13,rfl,rfl⟩
 refine wA I I<|wA I I<|A3 K5<|AK<|I3 (fun w h=>EX (F:=(Cb 102 5)) h) ?_
 rw [show cl b13 90 [.bool true,.int .i64 room,.int .i64 0,.int .i64 0,.map (some m11)]=cl b13 90 [.bool true,.int .i64 room,.int .i64 0,.int .i64 (((Ap ([]:List En)):Nat):Int),.map (some m11)] from rfl,show Bs m11 By Cc ([]:List (Ky × Nat))=Bs m11 By Cc (([]:List En).map En.kp) from rfl]
 exact hret.go (b13,m11) (OV rfl rfl rfl)

theorem Wv{room:Int}(h:room<0\/1073741824<room):Ct Tryz.prog 12 [.int .i64 room] [] (fun _:Unit=>.tuple #[.pointer none,.int .i64 190]) (fun _=> []):=by
 refine AY (n:=14) Tryz.func12 I I I fun F w0 Q hret hnorm hp=>?_
 change WC _ _ _ _ _ _ _ (F)
 refine A4 fun _ K1=>wA I I<|wA I I<|A3 K1<|A7 fun _ K2=>A4 fun _ K3=>wM I I<|A2 (Bt I I) I<|wM I I<|Ae 6 I (fun hg4=>?_) (fun hg4=>?_)
 ·try simp only [dz] at hg4
  refine wK I<|wK I<|A2 (AC I I) I<|A3 K3<|Ad I<|A4 fun _ K5=>wA I I<|wA I I<|A3 K5<|AK ?_
  exact hret.go () (OV rfl rfl rfl)
 try simp only [dz] at hg4
 refine wM I I<|A2 (DI I I) I ?_
 refine A2 (A8 I I) I<|A3 K3<|AH I (fun hc0=>?_) (fun hc0=>?_)
 ·try simp only [dz] at hc0
  refine A4 fun _ K6=>wA I I<|wA I I<|A3 K6<|AK ?_
  exact hret.go () (OV rfl rfl rfl)
 try simp only [dz] at hc0
 omega

theorem Fz{b m:Nat}{room tick:Int}{u:Nat} :Ct Tryz.prog 37 [.pointer (some ⟨b,0,none⟩)] [cl b 90 [.bool true,.int .i64 room,.int .i64 tick,.int .i64 ((u:Nat):Int),.map (some m)]] (fun _:Unit=>.bool true) (fun _=> [cl b 90 [.bool true,.int .i64 room,.int .i64 tick,.int .i64 ((u:Nat):Int),.map (some m)]]):=by
 refine AY (n:=11) Tryz.func37 I I I fun F w0 Q hret hnorm hp=>?_
 change WC _ _ _ _ _ _ _ (_::F)
 refine A4 fun _ K1=>wA I I<|A3 K1<|A4 fun _ K2=>wM I I<|A2 (NW I I IA) I ?_
 refine wM I I<|wM I I<|A2 (A9 I) I<|A2 (A1 I dF) I<|A2 (A6 I tk4) I ?_
 refine A2 (AC I I) I<|wA I I<|A3 K2<|AK ?_
 exact hret.go () (BR rfl rfl)

theorem Xp{b m r u:Nat}{room tick:Int}{k:Ky}{x:En}{l rest:List (Ky × Nat)}{ls:List Ls}(hk:k ∉ C5 rest)(hu:x.e.b.length<=u)(hub:u<=1099511627776):Ct Tryz.prog 54 [.pointer (some ⟨b,0,none⟩),By k,.pointer (some ⟨x.p,0,none⟩)] [cl b 90 [.bool true,.int .i64 room,.int .i64 tick,.int .i64 ((u:Nat):Int),.map (some m)],Gt m r By Cc l rest none,cl x.p 102 [sl x.a x.e.b.length x.cap,.map (some x.m)],Aa x.a x.cap 1 5 (eU .u8 (w:=8)) x.e.b,Bs x.m Dn DY ls] (fun _:Unit=>.tuple #[]) (fun _=> [cl b 90 [.bool true,.int .i64 room,.int .i64 tick,.int .i64 (((if ls= [] then u -x.e.b.length else u):Nat):Int),.map (some m)],Gt m r By Cc (if ls= [] then CC k l else l) rest none,cl x.p 102 [sl x.a x.e.b.length x.cap,.map (some x.m)],Aa x.a x.cap 1 5 (eU .u8 (w:=8)) x.e.b,Bs x.m Dn DY ls]):=by
 refine AY (n:=29) Tryz.func54 I I I fun F w0 Q hret hnorm hp=>?_
 change WC _ _ _ _ _ _ _ (_::_::_::_::_::F)
 refine A4 fun _ K1=>AB (Ay (xs:=Dt k) I I) I I I ?_
 rintro _ _ ⟨b4,rfl,rfl⟩
 refine A3 K1<|A4 fun _ K2=>wM I I<|A2 (A9 I) I<|A2 (A1 I E0) I<|A2 (A6 I Fb (v:=.map (some x.m))) I<|A2 (MG I I EW) I ?_
 refine A2 (Ab (j:=0) I I) I<|A3 K2<|AH I (fun hc0=>?_) (fun hc0=>?_)
 ·try simp only [dz] at hc0
  have hls:ls= []:=List.eq_nil_of_length_eq_zero (by omega)
  rw [if_pos hls,if_pos hls] at hnorm
  refine A7 fun _ K3=>Am CE (jz [12] 13) ?_
  refine jM 0 I I I hp<|jP 1 I (A9 I) I hp<|jP 2 I (A1 I Df) I hp<|jT 3 I (A6 I BF) I hp AQ ?_
  refine jM 4 I I I hp<|jP 5 I (A9 I) I hp<|jP 6 I (A1 I El) I hp<|jT 7 I (A6 I Bg (v:=sl x.a x.e.b.length x.cap)) I hp AQ<|jP 8 I (BA I I BQ) I hp<|jP 9 I (Ax I I) I hp<|jP 10 I (A9 I) I hp<|jP 11 I (A1 I Df) I hp<|jO 12<|EN I (Ar I I Fw) I ?_
  rintro _ _ rfl
  refine jD<|A5 K3<|Am CE (jz [5] 6) ?_
  refine jM 0 I I I hp<|jP 1 I (A9 I) I hp<|jP 2 I (A1 I De) I hp<|jT 3 I (A6 I Fg (v:=.map (some m))) I hp AQ<|jT 4 I (AI (vs:=Dt k) I Ff (hl:=by rw [Aw];omega) (hi:=by rw [List.drop_zero];exact List.take_of_length_le (Nat.le_of_eq (Aw k)))) I hp AQ ?_
  refine jO 5<|EN I (U9 G9 I I FZ hk) I ?_
  rintro _ _ rfl
  refine jD ?_
  exact hnorm.go () (Ke rfl)
 try simp only [dz] at hc0
 have hls: ¬ls= []:=fun e=>hc0 (by rw [e];rfl)
 rw [if_neg hls,if_neg hls] at hnorm
 refine AA ?_
 exact hnorm.go () (Ke rfl)

theorem TB{b m:Nat}{room tick t1:Int}{L:List En}(h:t1<tick\/1099511627776<t1):Ct Tryz.prog 21 [.pointer (some ⟨b,0,none⟩),.int .i64 t1] [cl b 90 [.bool true,.int .i64 room,.int .i64 tick,.int .i64 (((Ap L):Nat):Int),.map (some m)],Bs m By Cc (L.map En.kp),star (Cb 102 5) L] (fun _:Unit=>.int .i64 191) (fun _=> [cl b 90 [.bool true,.int .i64 room,.int .i64 tick,.int .i64 (((Ap L):Nat):Int),.map (some m)],Bs m By Cc (L.map En.kp),star (Cb 102 5) L]):=by
 refine AY (n:=58) Tryz.func21 I I I fun F w0 Q hret hnorm hp=>?_
 change WC _ _ _ _ _ _ _ (_::_::_::F)
 refine A4 fun _ K1=>wA I I<|A3 K1<|A7 fun _ K2=>A4 fun _ K3=>wM I I<|AB (AE RQ I (hs:=Fz (b:=b) (m:=m) (room:=room) (tick:=tick) (u:=Ap L))) I I I ?_
 rintro _ _ ⟨⟨⟩,rfl,hA⟩
 simp only [ca] at hA
 subst hA
 refine A2 (Au I) I<|A3 K3<|AM I<|AA<|A5 K2<|A7 fun _ K4=>A4 fun _ K5=>wM I I<|wM I I<|A2 (A9 I) I<|A2 (A1 I Ku) I<|A2 (A6 I BF) I ?_
 refine A2 (Bt I I) I<|wM I I<|Ae 18 I (fun hg6=>?_) (fun hg6=>?_)
 ·try simp only [dz] at hg6
  refine wK I<|wK I<|A2 (AC I I) I<|A3 K5<|Ad I<|A4 fun _ K7=>wA I I<|A3 K7<|AK ?_
  exact hret.go () (BR rfl rfl)
 try simp only [dz] at hg6
 refine wM I I<|A2 (DI I I) I ?_
 refine A2 (A8 I I) I<|A3 K5<|AH I (fun hc1=>?_) (fun hc1=>?_)
 ·try simp only [dz] at hc1
  refine A4 fun _ K8=>wA I I<|A3 K8<|AK ?_
  exact hret.go () (BR rfl rfl)
 try simp only [dz] at hc1
 omega

theorem Oc{b m:Nat}{room tick t1:Int}{L:List En}(h1:tick<=t1)(h2:t1<=1099511627776)(hu:Ap L<=1099511627776):Ct Tryz.prog 21 [.pointer (some ⟨b,0,none⟩),.int .i64 t1] [cl b 90 [.bool true,.int .i64 room,.int .i64 tick,.int .i64 (((Ap L):Nat):Int),.map (some m)],Bs m By Cc (L.map En.kp),star (Cb 102 5) L] (fun _:Unit=>.int .i64 0) (fun _=> [cl b 90 [.bool true,.int .i64 room,.int .i64 t1,.int .i64 (((Ap (L.filterMap (Dd t1))):Nat):Int),.map (some m)],Bs m By Cc ((L.filterMap (Dd t1)).map En.kp),star (Cb 102 5) (L.filterMap (Dd t1))]):=by
 refine AY (n:=58) Tryz.func21 I I I fun F w0 Q hret hnorm hp=>?_
 change WC _ _ _ _ _ _ _ (_::_::_::F)
 refine A4 fun _ K1=>wA I I<|A3 K1<|A7 fun _ K2=>A4 fun _ K3=>wM I I<|AB (AE RQ I (hs:=Fz (b:=b) (m:=m) (room:=room) (tick:=tick) (u:=Ap L))) I I I ?_
 rintro _ _ ⟨⟨⟩,rfl,hA⟩
 simp only [ca] at hA
 subst hA
 refine A2 (Au I) I<|A3 K3<|AM I<|AA<|A5 K2<|A7 fun _ K4=>A4 fun _ K5=>wM I I<|wM I I<|A2 (A9 I) I<|A2 (A1 I Ku) I<|A2 (A6 I BF) I ?_
 refine A2 (Bt I I) I<|wM I I<|Ae 18 I (fun hg6=>?_) (fun hg6=>?_)
 ·try simp only [dz] at hg6
  refine wK I<|wK I<|A2 (AC I I) I<|A3 K5<|Ad I ?_
  omega
 try simp only [dz] at hg6
 refine wM I I<|A2 (DI I I) I ?_
 refine A2 (A8 I I) I<|A3 K5<|AH I (fun hc1=>?_) (fun hc1=>?_)
 ·try simp only [dz] at hc1
  omega
 try simp only [dz] at hc1
 refine AA<|A5 K4<|A4 fun _ K7=>wM I I<|wM I I<|A2 (A9 I) I<|A2 (A1 I Ku) I<|AX (Ar I I Fw) I I ?_
 rintro _ _ rfl
 refine A3 K7<|A7 fun _ K8=>A4 fun _ K9=>wM I I<|A2 (A9 I) I<|A2 (A1 I De) I<|A2 (A6 I Fg (v:=.map (some m))) I<|AB (Im (κ:=Ky) (β:=Nat) I FZ) I I I ?_
 rintro _ _ ⟨r30,rfl,rfl⟩
 refine A3 K9<|AG<|Ak (σ:=(List En) × (List En)) (fun ⟨ts,dn⟩=> []) (fun ⟨ts,dn⟩=> [cl b 90 [.bool true,.int .i64 room,.int .i64 t1,.int .i64 (((Ap (dn++ts)):Nat):Int),.map (some m)],Gt m r30 By Cc ((dn++ts).map En.kp) (ts.map En.kp) none,star (Cb 102 5) (dn++ts)]) (fun ⟨ts,dn⟩=>(dn++ts.filterMap (Dd t1)).Perm (L.filterMap (Dd t1))/\Ap (dn++ts)<=1099511627776) (fun ⟨ts,dn⟩=>ts.length) ⟨L,[]⟩ [0,1,4,30] Cw fS ?_ ?_ Sub.refl ?_
 ·exact⟨List.Perm.refl _,hu⟩
 ·(try dsimp only);exact Wk.nil
 rintro⟨ts,dn⟩ ⟨hpm,hub⟩ K10 K10
 simp only [List.cons_append,List.nil_append]
 refine Bu (fun w h=>O2 (m:=m) (r:=r30) (l:=(dn++ts).map En.kp) (rest:=ts.map En.kp) (cur:=none) KH Yz Bf h) (fun hmf=>?_)
 refine A4 fun _ K11=>AB (Kd (κ:=Ky) (β:=Nat) (kf:=By) (vf:=Cc) KH I) I I I ?_
 rintro _ _ (⟨hre,rfl,rfl⟩|⟨k,p,pre,post,hre,rfl,rfl⟩)
 ·skip
  obtain rfl:ts= []:=List.map_eq_nil_iff.1 hre
  have hpf:(dn++ []).Perm (L.filterMap (Dd t1)):=hpm
  refine Dl (Gt m r30 By Cc ((dn++ []).map En.kp) [] none) (Bs m By Cc ((L.filterMap (Dd t1)).map En.kp)) (KA (hpf.map _)) ?_
  refine Dl (star (Cb 102 5) (dn++ [])) (star (Cb 102 5) (L.filterMap (Dd t1))) (Fy hpf) ?_
  rw [Gg hpf]
  refine A2 (BE I) I<|A3 K11<|A7 fun _ K12=>AM I<|Aj<|A5 K8<|A4 fun _ K13=>wA I I<|A3 K13<|AK ?_
  exact hret.go () (BR rfl rfl)
 skip
 obtain⟨pt,x,qt,rfl,hpt,hxk,hqt⟩:=O4 hre
 obtain⟨rfl,rfl⟩:x.e.key=k/\x.p=p:=by unfold En.kp at hxk;exact⟨congrArg Prod.fst hxk,congrArg Prod.snd hxk⟩
 subst hpt;subst hqt
 have hkr:x.e.key ∉ C5 (pt.map En.kp++qt.map En.kp):=by have h:=hmf.2.1;rw [List.map_append,List.map_cons] at h;exact TA (b:=x.p) h
 have hux:x.e.b.length<=Ap (dn++(pt++x::qt)):=by rw [T8];omega
 refine A2 (BE I) I<|A3 K11<|A7 fun _ K14=>Ad I<|AA<|A5 K14<|AG<|A4 fun _ K15=>A2 (Il I) I ?_
 refine A2 (BE I) I<|A2 (BN I) I<|AB (AZ JG) I I I ?_
 rintro _ _ ⟨b5,rfl,rfl⟩
 refine AX (AV (ys:=Dt x.e.key) I I Hk (h1:=encK.one _) (hv:=by simpa [Value.cells,By] using Aw x.e.key) (hr:=by simp [Value.cells,By])) I I ?_
 rintro _ _ rfl
 refine wA I I<|A3 K15<|A7 fun _ K16=>A4 fun _ K17=>wM I I<|A2 (A9 I) I<|A2 (A1 I E0) I<|YX 102 5 dn pt x qt ?_
 refine A2 (A6 I Fb (v:=.map (some x.m))) I<|AB (Im (κ:=Bv) (β:=Int) I EW) I I I ?_
 rintro _ _ ⟨r40,rfl,rfl⟩
 refine A3 K17<|AG<|Ak (σ:=(List Ls) × (List Ls)) (fun ⟨tw,dw⟩=> []) (fun ⟨tw,dw⟩=> [Gt x.m r40 Dn DY (dw++tw) tw none]) (fun ⟨tw,dw⟩=>(dw++D1 t1 tw).Perm (D1 t1 x.e.ls)) (fun ⟨tw,dw⟩=>tw.length) ⟨x.e.ls,[]⟩ [0,1,4,5,6,30,31,32,33,34,35,36,37,38,39,40,54,55,56] Cw fS ?_ ?_ Sub.refl ?_
 ·exact List.Perm.refl _
 ·(try dsimp only);exact Wk.nil
 rintro⟨tw,dw⟩ hpw K18 K18
 simp only [List.cons_append,List.nil_append]
 refine Bu (fun w h=>O2 (m:=x.m) (r:=r40) (l:=dw++tw) (rest:=tw) (cur:=none) P7 Z0 Bf h) (fun hwf=>?_)
 refine A4 fun _ K19=>AB (Kd (κ:=Bv) (β:=Int) (kf:=Dn) (vf:=DY) P7 I) I I I ?_
 rintro _ _ (⟨hrw,rfl,rfl⟩|⟨wh,un,pw,qw,hrw,rfl,rfl⟩)
 ·skip
  subst hrw
  refine Dl (Gt x.m r40 Dn DY (dw++ []) [] none) (Bs x.m Dn DY (D1 t1 x.e.ls)) (KA (show (dw++ []).Perm (D1 t1 x.e.ls) from hpw)) ?_
  refine A2 (BE I) I<|A3 K19<|A7 fun _ K20=>AM I<|Aj<|A5 K16<|AD<|wM I I<|A2 (AI (vs:=Dt x.e.key) I Ff (hl:=by rw [Aw];omega) (hi:=by rw [List.drop_zero];exact List.take_of_length_le (Nat.le_of_eq (Aw x.e.key)))) I ?_
  refine wM I I<|Dl (Gt m r30 By Cc ((dn++(pt++x::qt)).map En.kp) (pt.map En.kp++qt.map En.kp) (some (x.e.key,x.p))) (Gt m r30 By Cc ((dn++(pt++x::qt)).map En.kp) (pt.map En.kp++qt.map En.kp) none) (Jz (.refl _)) ?_
  refine AB (AE ff I (hs:=Xp (b:=b) (m:=m) (r:=r30) (room:=room) (tick:=t1) (u:=Ap (dn++(pt++x::qt))) (k:=x.e.key) (x:=x) (ls:=(D1 t1 x.e.ls)) (l:=(dn++(pt++x::qt)).map En.kp) (rest:=(pt.map En.kp++qt.map En.kp)) hkr hux hub)) I I I ?_
  rintro _ _ ⟨⟨⟩,rfl,hA⟩
  simp only [ca] at hA
  subst hA
  refine VV 102 5 x (D1 t1 x.e.ls) (dn++(pt++qt)) ?_
  rw [show ((DR x.e (D1 t1 x.e.ls)).map x.put)=Dd t1 x from rfl,<-List.append_assoc,O8,show ((DR x.e (D1 t1 x.e.ls)).map x.put)=Dd t1 x from rfl]
  refine Dl (Gt m r30 By Cc (if (D1 t1 x.e.ls)= [] then CC x.e.key ((dn++(pt++x::qt)).map En.kp) else (dn++(pt++x::qt)).map En.kp) (pt.map En.kp++qt.map En.kp) none) (Gt m r30 By Cc ((((Dd t1 x).toList++dn)++(pt++qt)).map En.kp) ((pt++qt).map En.kp) none) (QX (XN hmf.1) (List.map_append).symm) ?_
  refine AW<|Av (K10 ⟨pt++qt,((Dd t1 x).toList++dn)⟩ (⟨Zw hpm,by(try dsimp only);rw [<-show ((DR x.e (D1 t1 x.e.ls)).map x.put)=Dd t1 x from I,<-O8];split <;>omega⟩) (by (try dsimp only);rw [List.length_append,List.length_append,List.length_cons];omega))
 skip
 subst hrw
 have hwn:=TA hwf.2.1
 refine A2 (BE I) I<|A3 K19<|A7 fun _ K21=>Ad I<|AA<|A5 K21<|AG<|A4 fun _ K22=>A2 (Il I) I ?_
 refine A2 (BE I) I<|A2 (BN I) I<|wA I I<|wA I I<|A3 K22<|A4 fun _ K23=>wM I I<|wM I I<|A2 (Bt I I) I<|A3 K23<|AH I (fun hc4=>?_) (fun hc4=>?_)
 ·try simp only [dz] at hc4
  refine AD<|wM I I<|A2 (A9 I) I<|A2 (A1 I E0) I<|A2 (A6 I Fb (v:=.map (some x.m))) I<|wM I I<|AX (U9 IT I I EW hwn) I I ?_
  rintro _ _ rfl
  refine Dl (Gt x.m r40 Dn DY (CC wh (dw++(pw++(wh,un)::qw))) (pw++qw) none) (Gt x.m r40 Dn DY (dw++(pw++qw)) (pw++qw) none) (Jz (OK hwf.1)) ?_
  refine AW<|Av (K18 ⟨pw++qw,dw⟩ (by (try dsimp only);have h:=hpw;(try dsimp only at h);rw [Ui hc4] at h;exact h) (by (try dsimp only);rw [List.length_append,List.length_append,List.length_cons];omega))
 try simp only [dz] at hc4
 refine eO (Gt x.m r40 Dn DY (dw++(pw++(wh,un)::qw)) (pw++qw) (some (wh,un))) (Gt x.m r40 Dn DY ((wh,un)::dw++(pw++qw)) (pw++qw) none) (Jz todo_perm) ?_
 refine AA<|Av (K18 ⟨pw++qw,(wh,un)::dw⟩ (Uh hc4 hpw) (by (try dsimp only);rw [List.length_append,List.length_append,List.length_cons];omega))
end Go.Proofs.YtoakfknnaiapiaaGreat
/-
 slices.Sort at whole numbers,in the logic:the slice's cells are sorted. (Conditions:none;generic over the program.)
-/
namespace Go.SL
open Go.RowKit Go.Sort Go.Shelf Go.Proofs
variable {P : Program}
theorem bi(f:Int ->List Value)(hf: ∀x,f x= [Value.int .i64 x])(l:List Int):l.flatMap f=l.map (Value.int .i64):=by
 induction l with
 |nil=>rfl
 |cons x l ih=>rw [List.flatMap_cons,ih,hf];rfl
theorem Yq{ρ:Ren}(L:Lays.n189 P ρ)(f:Int ->List Value)(hf: ∀x,f x= [Value.int .i64 x])(a:Option Nat)(cap:Nat)(T:TypeId)(l:List Int)(hsz:l.length<4611686018427387904):
  Ct P (ρ.f 189) [.slice (a.map fun b=>⟨b,0,none⟩) l.length cap] [Aa a cap 1 T f l] (fun _:Unit=>.tuple #[]) (fun _=> [Aa a cap 1 T f (l.mergeSort fun x y=>decide (x<=y))]):=by
 refine⟨fun F w hs=>?_⟩
 rw [List.cons_append,List.nil_append] at hs
 by_cases hl0:l= []
 ·subst hl0
  refine(Any.slices_Sort_int_none L _ cap w).mono ?_
  rintro e w' ⟨rfl,rfl⟩
  exact⟨(),rfl,by rw [List.cons_append,List.nil_append];simpa using hs,Kept.refl _⟩
 cases a with
 |none=>exact absurd (FX (A:=Aa none cap 1 T f l::F) Has.here hs).2 hl0
 |some MA=>
 unfold Aa at hs
 obtain⟨cur,h2⟩:=E3.1 hs
 obtain⟨⟨hfe,hcl,hle,hm,htk⟩,h3⟩:=Co.1 h2
 rw [Nat.mul_one] at hcl htk
 rw [bi f hf] at htk
 have hb:=Cn h3
 have hblk:MA<w.heap.size:=(Array.getElem?_eq_some_iff.1 hb).1
 have hcur: ∀j,j<l.length ->cur[j]? =some (Value.int .i64 (l.toArray[j]!)):=fun j hj=>by
  have h5:(cur.take l.length)[j]? =(l.map (Value.int .i64))[j]? :=by rw [htk]
  rw [List.getElem?_take,if_pos hj,List.getElem?_map] at h5
  rw [h5,List.getElem?_eq_getElem hj]
  simp [getElem!_pos,hj]
 have hH:Holds (Value.int .i64) w MA 0 l.toArray:=fun j hj=>by
  have hj':j<l.length:=by simpa using hj
  refine⟨GW hb (by simpa using hcur j hj'),?_⟩
  simp [World.frozen?,hb]
 have hcon:=Any.slices_Sort_int L MA 0 cap l w hH hblk hsz
 refine hcon.mono ?_
 rintro e w' ⟨rfl,n,os,rfl⟩
 have hlen:(l.mergeSort fun x y=>decide (x<=y)).length=l.length:=List.length_mergeSort _
 have hkk:Kept w (Sort.grow (putRow (Value.int .i64) (Sort.ahead w n) MA 0 (l.mergeSort fun x y=>decide (x<=y)).toArray) os):=⟨rfl,rfl,rfl,by simp [Sort.grow,putRow,mapBlock,Sort.ahead],by simp [Sort.grow,putRow,mapBlock,Sort.ahead]⟩
 have hheap: ∀c,c≠MA -> ∀x,w.heap[c]? =some x ->(Sort.grow (putRow (Value.int .i64) (Sort.ahead w n) MA 0 (l.mergeSort fun x y=>decide (x<=y)).toArray) os).heap[c]? =some x:=fun c hc x h=>by
  have hlt:c<w.heap.size:=(Array.getElem?_eq_some_iff.1 h).1
  simp only [Sort.grow,putRow,mapBlock,Sort.ahead]
  rw [Array.getElem?_append_left (by simpa using hlt),Array.getElem?_modify,if_neg (Ne.symm hc),h]
 refine⟨(),rfl,?_,hkk⟩
 rw [List.cons_append,List.nil_append]
 unfold Aa
 refine E3.2 ⟨(putCells (Value.int .i64) 0 (l.mergeSort fun x y=>decide (x<=y)).toArray cur.toArray).toList,Co.2 ⟨⟨hfe,by simp [putCells,hcl],by rw [hlen];exact hle,hm,?_⟩,Fq (o:=.cells cur.toArray T (0,0)) ?_ hheap h3⟩⟩
 ·rw [Nat.mul_one,bi f hf]
  apply List.ext_getElem?
  intro i
  rw [List.getElem?_take,List.getElem?_map]
  by_cases hi:i<(l.mergeSort fun x y=>decide (x<=y)).length
  ·rw [if_pos hi]
   have hi2:i<cur.length:=by rw [hcl];omega
   simp only [putCells,Array.getElem?_toList,Array.getElem?_mapIdx]
   rw [List.getElem?_toArray,List.getElem?_eq_getElem hi2,List.getElem?_eq_getElem hi]
   simp only [Option.map_some]
   rw [if_pos (by simp;omega)]
   simp only [Nat.sub_zero]
   rw [getElem!_pos _ _ (by simpa using hi)]
   simp
  ·rw [if_neg hi,List.getElem?_eq_none (by omega)];rfl
 ·simp only [Sort.grow,putRow,mapBlock,Sort.ahead]
  rw [Array.getElem?_append_left (by simpa using hblk),Array.getElem?_modify,if_pos rfl,hb]
  simp [onCells]
end Go.SL
/-
 slices.SortFunc in the logic:the slice's cells are sorted,what the order reads is kept. (Conditions:a comparison that is a function of the two values,and parts whatever two are not one.)
-/
namespace Go.SL
open Go.RowKit Go.Sort Go.Shelf Go.Proofs

def Mh(X:List (Nat × Obj)):List Ao:=X.map fun x=>pt x.1 x.2
theorem Ol: ∀ {X:List (Nat × Obj)} {h:Hp},F7 (Mh X) h -> ∀b,(∃o,h b=some o)<-> ∃o,(b,o)∈X
 | [],h,e,b=>by simp [show h b=none from e b]
 |x::X,h,⟨h1,h2,d,e,a,r⟩,b=>by
  have ih:=Ol (X:=X) r b
  rw [e b]
  by_cases hb:b=x.1
  ·subst hb
   have:h1 x.1=some x.2:=by rw [a x.1,if_pos rfl]
   rw [Lk this]
   exact⟨fun _=>⟨x.2,List.mem_cons_self⟩,fun _=>⟨_,rfl⟩⟩
  ·have:h1 b=none:=by rw [a b,if_neg hb]
   rw [Iq this,ih]
   constructor
   ·rintro⟨o,ho⟩;exact⟨o,List.mem_cons_of_mem _ ho⟩
   ·rintro⟨o,ho⟩
    rcases List.mem_cons.1 ho with rfl|ho
    ·exact absurd rfl hb
    ·exact⟨o,ho⟩
theorem LO{X:List (Nat × Obj)}{R:List Ao}{w:World}(h:sat w (Mh X++R)){b:Nat}{o:Obj}(hm:(b,o)∈X):w.heap[b]? =some o:=by
 obtain⟨Y,Z,rfl⟩:=List.append_of_mem hm
 refine Cn (b:=b) (o:=o) (R:=Mh Y++Mh Z++R) (AS ?_ h)
 unfold Mh
 simp only [List.map_append,List.map_cons,List.append_assoc,List.cons_append]
 exact List.perm_middle
def Wp(W:World)(X:List (Nat × Obj)):Ao:=fun h=> ∀b,((∃o,(b,o)∈X) ->h b=none)/\((¬ ∃o,(b,o)∈X) ->h b=W.heap[b]?)
theorem SC{W:World}{X:List (Nat × Obj)}(h:sat W (Mh X)):sat W (Mh X++ [Wp W X]):=by
 classical
 obtain⟨h,hw,r⟩:=h
 have k:=Ol r
 obtain⟨h2,e2⟩: ∃h2:Hp,h2=fun b=>if ∃o,(b,o)∈X then none else W.heap[b]? :=⟨_,rfl⟩
 have d:dj h h2:=fun b=>by
  by_cases hb: ∃o,(b,o)∈X
  ·exact .inr (by rw [e2];simp only [if_pos hb])
  ·cases hc:h b with
   |none=>exact .inl rfl
   |some o=>exact absurd ((k b).1 ⟨o,hc⟩) hb
 refine⟨un h h2,fun b o hb=>?_,Om.1 ⟨h,h2,d,fun _=>rfl,r,h2,fun _=>none,fun _=>.inr rfl,fun b=>?_,fun b=>⟨fun hb=>?_,fun hb=>?_⟩,fun _=>rfl⟩⟩
 ·cases hc:h b with
  |some x=>rw [Lk hc] at hb;cases hb;exact hw _ _ hc
  |none=>
   rw [Iq hc,e2] at hb
   by_cases hq: ∃o,(b,o)∈X
   ·simp only [if_pos hq] at hb;cases hb
   ·simp only [if_neg hq] at hb;exact hb
 ·unfold un;cases h2 b <;>rfl
 ·rw [e2];simp only [if_pos hb]
 ·rw [e2];simp only [if_neg hb]
theorem Ov{W w:World}{X:List (Nat × Obj)}{R:List Ao}(hX:sat W (Mh X))(h:sat w (Mh X++Wp W X::R)){b:Nat}(hb:b<W.heap.size):w.heap[b]? =W.heap[b]? :=by
 classical
 by_cases hq: ∃o,(b,o)∈X
 ·obtain⟨o,ho⟩:=hq
  rw [LO h ho,LO (R:= []) (by simpa using hX) ho]
 ·obtain⟨hh,a,h1,h2,d,e,o,_⟩:=AS List.perm_middle h
  obtain⟨x,hx⟩: ∃x,W.heap[b]? =some x:=⟨_,Array.getElem?_eq_getElem hb⟩
  rw [hx]
  refine a b x ?_
  rw [e];unfold un;rw [(o b).2 hq,hx]
theorem Xb{W w:World}(hk:Kept W w)(hb: ∀b,b<W.heap.size ->w.heap[b]? =W.heap[b]?): ∃q os,w=Sort.grow (W.drewN q) os:=by
 refine⟨w.drawn -W.drawn,w.heap.extract W.heap.size w.heap.size,?_⟩
 obtain⟨hp,tp,dr,os,out⟩:=w
 obtain⟨h1,h2,h3,h4,h5⟩:=hk
 simp only at h1 h2 h3 h4 h5 hb ⊢
 subst h1 h2 h3
 have e1:W.drawn+(dr -W.drawn)=dr:=by omega
 have e2:W.heap++hp.extract W.heap.size hp.size=hp:=by
  apply Array.ext_getElem?
  intro i
  rw [Array.getElem?_append]
  by_cases hi:i<W.heap.size
  ·rw [if_pos hi,hb i hi]
  ·rw [if_neg hi,Array.getElem?_extract]
   by_cases hj:i<hp.size
   ·rw [if_pos (by omega)];congr 1;omega
   ·rw [if_neg (by omega)];simp;omega
 simp [Sort.grow,World.drewN,e1,e2]
variable {P : Program} {α : Type} [Inhabited α]
theorem Ct.conv{f:FuncId}{args:List Value}{pre pre':List Ao}{ρ:Type}{val:ρ ->Value}{post post':ρ ->List Ao}(h:Ct P f args pre val post)(h1: ∀F w,sat w (pre'++F) ->sat w (pre++F))(h2: ∀r F w,sat w (post r++F) ->sat w (post' r++F)):Ct P f args pre' val post':=by
 refine⟨fun F w hs=>(h.out F w (h1 F w hs)).mono ?_⟩
 rintro e w' ⟨r,he,hs',hk⟩
 exact⟨r,he,h2 r F w' hs',hk⟩
theorem Ct.reg{f:FuncId}{args:List Value}{pre:List Ao}{ρ ρ':Type}{val:ρ ->Value}{post:ρ ->List Ao}{val':ρ' ->Value}{post':ρ' ->List Ao}(h:Ct P f args pre val post)(hc: ∀r F w,sat w (post r++F) -> ∃r',val r=val' r'/\sat w (post' r'++F)):Ct P f args pre val' post':=by
 refine⟨fun F w hs=>(h.out F w hs).mono ?_⟩
 rintro e w' ⟨r,he,hs',hk⟩
 obtain⟨r',h1,h2⟩:=hc r F w' hs'
 exact⟨r',by rw [he,h1],h2,hk⟩
theorem VH{α β:Type}{a:Option Nat}{cap e:Nat}{T:TypeId}{f:α ->List Value}{g:β ->α}{l:List β}(hg: ∀x,(f (g x)).length=e): ∀hp,Aa a cap e T f (l.map g) hp ->Aa a cap e T (fun x=>f (g x)) l hp:=by
 intro h
 cases a with
 |none=>rintro⟨⟨h1,h2⟩,h3⟩;exact⟨⟨h1,by simpa using h2⟩,h3⟩
 |some gb=>
  rintro⟨cur,⟨hfe,hcl,hle,hm,htk⟩,h3⟩
  rw [List.length_map] at hle htk
  exact⟨cur,⟨hg,hcl,hle,hm,by rw [htk,List.flatMap_map]⟩,h3⟩
end Go.SL
/-
 slices.SortFunc at elements of several cells,slices.Sort at whole numbers,in the logic:the slice's cells are sorted,what the order reads is kept. (Conditions:a comparison that is a function of the two values,and parts whatever two are not one.)
-/
namespace Go.SL
open Go.RowKit Go.Sort Go.Shelf Go.Proofs
variable {P : Program} {α : Type} [Inhabited α]
theorem I6{enc:α ->List Value}{k:Nat}{w:World}{MA off m:Nat}{dk:Array α}{os:Array Obj}{c:Nat}{x:Obj}(hc:c≠MA)(h:w.heap[c]? =some x):(sortWorldK enc k w MA off m dk os).heap[c]? =some x:=by
 have hlt:c<w.heap.size:=(Array.getElem?_eq_some_iff.1 h).1
 simp only [sortWorldK,Sort.grow,putRowK,putRow,mapBlock,Sort.ahead]
 rw [Array.getElem?_append_left (by simpa using hlt),Array.getElem?_modify,if_neg (Ne.symm hc),h]
theorem RI{g k:Nat}{cb:Array Value}{enc:α ->List Value}{cf:α ->α ->Int}{MA off size:Nat}{w:World}{X:List (Nat × Obj)}(hX:sat w (Mh X))(hne: ∀o,(MA,o) ∉ X)
  (hc: ∀x y,Ct P g (.agg (enc x).toArray:: .agg (enc y).toArray::cb.toList) (Mh X) (fun _:Unit=>.int .i64 (cf x y)) (fun _=>Mh X)):CmpLays P g cb enc k cf MA off size w:=by
 intro m os dk _ x y
 obtain⟨h,hw,r⟩:=hX
 have hS:sat (sortWorldK enc k w MA off m dk os) (Mh X):=⟨h,fun b o hb=>I6 (fun e=>by
  obtain⟨o',ho'⟩:=(Ol r b).1 ⟨o,hb⟩
  rw [e] at ho';exact hne _ ho') (hw b o hb),r⟩
 have h2:=SC hS
 have e:(.agg (enc x).toArray:: .agg (enc y).toArray::cb.toList).toArray= #[.agg (enc x).toArray,.agg (enc y).toArray]++cb:=by apply Array.ext';simp
 have:=(hc x y).out _ _ h2
 rw [e] at this
 refine this.mono ?_
 rintro e w' ⟨r,rfl,hs',hk⟩
 exact⟨rfl,Xb hk fun b hb=>Ov hS hs' hb⟩
theorem PP{enc:α ->List Value}{k:Nat}(hk: ∀x,(enc x).length=k): ∀(l:List α) (t:Nat),t<l.length*k ->(l.flatMap enc)[t]? =some ((enc l.toArray[t / k]!)[t % k]!)
 | [],t,h=>by simp at h
 |x::l,t,h=>by
  have hk0:0<k:=by rcases Nat.eq_zero_or_pos k with e|e;(subst e;simp at h);exact e
  rw [List.flatMap_cons]
  rcases Nat.lt_or_ge t k with q|q
  ·rw [List.getElem?_append_left (by rw [hk];exact q),Nat.div_eq_of_lt q,Nat.mod_eq_of_lt q]
   simp [hk,q]
  ·rw [List.getElem?_append_right (by rw [hk];exact q),hk]
   have h':t -k<l.length*k:=by rw [List.length_cons,Nat.add_mul,Nat.one_mul] at h;omega
   rw [PP hk l (t -k) h']
   have e1:t / k=(t -k) / k+1:=by rw [<-Nat.sub_add_cancel q,Nat.add_div_right _ hk0,Nat.sub_add_cancel q]
   have e2:t % k=(t -k) % k:=by rw [Nat.mod_eq_sub_mod q]
   rw [e1,e2]
   have hi:(t -k) / k<l.length:=Nat.div_lt_of_lt_mul (by rw [Nat.mul_comm];exact h')
   simp [getElem!_pos,hi]
theorem Sf{enc:α ->List Value}{k:Nat}(hk: ∀x,(enc x).length=k)(l:List α):(flatK enc k l.toArray).toList=l.flatMap enc:=by
 apply List.ext_getElem?
 intro t
 by_cases h:t<l.length*k
 ·rw [PP hk l t h]
  have hs:t<(flatK enc k l.toArray).size:=by simpa using h
  rw [Array.getElem?_toList,Array.getElem?_eq_getElem hs,<-get_flatK enc k l.toArray t (by simpa using h),getElem!_pos (flatK enc k l.toArray) t hs]
 ·rw [List.getElem?_eq_none (by simpa using h),List.getElem?_eq_none (by rw [Ec hk];omega)]
theorem Yp{ρ:Ren}(L:SlLaysF0.n6 P ρ)(k:Nat)(aE: ∀w,(isAgg (ρ.t 24)).run P w= .ok true w)(zE: ∀w,(Go.sizeOf (ρ.t 24)).run P w= .ok k w)(enc:α ->List Value)(hk: ∀x,(enc x).length=k)(h1: ∀x,∀v∈enc x,v.oneCell'=true)(cf:α ->α ->Int)(hO:SWO (ltOf cf))(hT: ∀x y,(ltOf cf) x y=false ->(ltOf cf) y x=false ->x=y)(g:Nat)(cb:List Value)(hg:DF P g=true)(X:List (Nat × Obj))
  (hc: ∀x y,Ct P g (.agg (enc x).toArray:: .agg (enc y).toArray::cb) (Mh X) (fun _:Unit=>.int .i64 (cf x y)) (fun _=>Mh X)) (a:Option Nat) (cap:Nat) (T:TypeId) (l:List α) (hsz:l.length<4611686018427387904):
  Ct P (ρ.f 6) [.slice (a.map fun b=>⟨b,0,none⟩) l.length cap,.func (.func g) #[] cb.toArray] (Aa a cap k T enc l::Mh X) (fun _:Unit=>.tuple #[]) (fun _=>Aa a cap k T enc (l.mergeSort fun x y=> !(ltOf cf) y x)::Mh X):=by
 refine⟨fun F w hs=>?_⟩
 rw [List.cons_append] at hs
 by_cases hl0:l= []
 ·subst hl0
  refine(AnyF.slices_SortFunc_none L _ cap _ w).mono ?_
  rintro e w' ⟨rfl,rfl⟩
  exact⟨(),rfl,by rw [List.cons_append];simpa using hs,Kept.refl _⟩
 cases a with
 |none=>exact absurd (FX (A:=Aa none cap k T enc l::(Mh X++F)) Has.here hs).2 hl0
 |some MA=>
 unfold Aa at hs
 obtain⟨cur,h2⟩:=E3.1 hs
 obtain⟨⟨hfe,hcl,hle,hm,htk⟩,h3⟩:=Co.1 h2
 have hb:=Cn h3
 have hblk:MA<w.heap.size:=(Array.getElem?_eq_some_iff.1 hb).1
 have hX:sat w (Mh X):=Ll (R:=F) (.refl _) (EB h3)
 have hne: ∀o,(MA,o) ∉ X:=fun o ho=>by
  have hs4:sat w (pt MA (.cells cur.toArray T (0,0))::Mh X):=Ll (R:=F) (by simp) h3
  obtain⟨Y,Z,rfl⟩:=List.append_of_mem ho
  refine cc (b:=MA) (c:=MA) (o:=.cells cur.toArray T (0,0)) (p:=o) (R:=Mh Y++Mh Z) (AS ?_ hs4) rfl
  refine List.Perm.cons _ ?_
  unfold Mh
  simp only [List.map_append,List.map_cons]
  exact List.perm_middle
 have hflen:(l.flatMap enc).length=l.length*k:=Ec hk l
 have hcur: ∀j,j<l.length*k ->cur[j]? =some ((flatK enc k l.toArray)[j]!):=fun j hj=>by
  have h5:(cur.take (l.length*k))[j]? =(l.flatMap enc)[j]? :=by rw [htk]
  rw [List.getElem?_take,if_pos hj,PP hk l j hj] at h5
  rw [h5,get_flatK enc k l.toArray j (by simpa using hj)]
 have hH:HoldsK enc k w MA 0 l.toArray:=fun j hj=>by
  have hj':j<l.length*k:=by simpa using hj
  refine⟨GW hb (by simpa using hcur j hj'),?_⟩
  simp [World.frozen?,hb]
 have hcon:=AnyQ.slices_SortFunc_total L k aE zE enc hk h1 cf hO g cb.toArray MA 0 cap l.toArray w (fun _ _=>FI hg _ _) (RI hX hne (by simpa using hc)) hH hblk (by simpa using hsz) hT
 rw [List.size_toArray] at hcon
 refine hcon.mono ?_
 rintro e w' ⟨rfl,n,os,rfl⟩
 have hlen:(l.mergeSort fun x y=> !(ltOf cf) y x).length=l.length:=List.length_mergeSort _
 have hkk:Kept w (sortWorldK enc k w MA 0 n (l.mergeSort fun x y=> !(ltOf cf) y x).toArray os):=⟨rfl,rfl,rfl,by simp [sortWorldK,Sort.grow,putRowK,putRow,mapBlock,Sort.ahead],by simp [sortWorldK,Sort.grow,putRowK,putRow,mapBlock,Sort.ahead]⟩
 refine⟨(),rfl,?_,hkk⟩
 rw [List.cons_append]
 unfold Aa
 refine E3.2 ⟨(putCells id 0 (flatK enc k (l.mergeSort fun x y=> !(ltOf cf) y x).toArray) cur.toArray).toList,Co.2 ⟨⟨hfe,by simp [putCells,hcl],by rw [hlen];exact hle,hm,?_⟩,Fq (o:=.cells cur.toArray T (0,0)) ?_ (fun c hc x hx=>I6 hc hx) h3⟩⟩
 ·rw [<-Sf hk]
  apply List.ext_getElem?
  intro i
  rw [List.getElem?_take]
  by_cases hi:i<(l.mergeSort fun x y=> !(ltOf cf) y x).length*k
  ·rw [if_pos hi]
   have hi2:i<cur.length:=by rw [hcl];rw [hlen] at hi;exact Nat.lt_of_lt_of_le hi (Nat.mul_le_mul_right _ hle)
   have hi3:i<(flatK enc k (l.mergeSort fun x y=> !(ltOf cf) y x).toArray).size:=by simpa using hi
   simp only [putCells,Array.getElem?_toList,Array.getElem?_mapIdx]
   rw [List.getElem?_toArray,List.getElem?_eq_getElem hi2,Array.getElem?_eq_getElem hi3]
   simp only [Option.map_some,Nat.zero_le,true_and,Nat.zero_add,Nat.sub_zero,id]
   rw [if_pos hi3,getElem!_pos (flatK enc k (l.mergeSort fun x y=> !(ltOf cf) y x).toArray) i hi3]
  ·rw [if_neg hi,List.getElem?_eq_none (by simpa using hi)]
 ·simp only [sortWorldK,Sort.grow,putRowK,putRow,mapBlock,Sort.ahead]
  rw [Array.getElem?_append_left (by simpa using hblk),Array.getElem?_modify,if_pos rfl,hb]
  simp [onCells]
end Go.SL
namespace Go.Proofs.YtoakfknnaiapiaaGreat
open Go.RowKit Go.SL Go.ShM Go.SvM Go.Proofs Go.Shelf Go.Sort Go.Lib
set_option maxHeartbeats 1000000
set_option maxRecDepth 20000
set_option linter.all false

def UY:Go.Shelf.Ren:=⟨fun|125=>82|128=>103|129=>104|189=>94|215=>139|216=>131|257=>115|294=>125|295=>126|296=>127|297=>128|298=>129|299=>130|300=>132|301=>133|328=>136|329=>117|330=>118|331=>137|332=>138|343=>140|n=>n,fun|0=>0|3=>3|4=>4|5=>5|9=>9|28=>79|46=>146|51=>42|53=>165|131=>149|182=>157|183=>158|218=>173|222=>177|228=>186|229=>187|n=>n,fun|n=>n⟩
theorem f8:Go.Proofs.Lays.n189 Tryz.prog UY:= {
 mixed:=by kernel_rfl
 f125:=Tryz.func82.trans (congrArg some (by kernel_rfl))
 f128:=Tryz.func103.trans (congrArg some (by kernel_rfl))
 f129:=Tryz.func104.trans (congrArg some (by kernel_rfl))
 f189:=Tryz.func94.trans (congrArg some (by kernel_rfl))
 f215:=Tryz.func139.trans (congrArg some (by kernel_rfl))
 f216:=Tryz.func131.trans (congrArg some (by kernel_rfl))
 f257:=Tryz.func115.trans (congrArg some (by kernel_rfl))
 f294:=Tryz.func125.trans (congrArg some (by kernel_rfl))
 f295:=Tryz.func126.trans (congrArg some (by kernel_rfl))
 f296:=Tryz.func127.trans (congrArg some (by kernel_rfl))
 f297:=Tryz.func128.trans (congrArg some (by kernel_rfl))
 f298:=Tryz.func129.trans (congrArg some (by kernel_rfl))
 f299:=Tryz.func130.trans (congrArg some (by kernel_rfl))
 f300:=Tryz.func132.trans (congrArg some (by kernel_rfl))
 f301:=Tryz.func133.trans (congrArg some (by kernel_rfl))
 f328:=Tryz.func136.trans (congrArg some (by kernel_rfl))
 f329:=Tryz.func117.trans (congrArg some (by kernel_rfl))
 f330:=Tryz.func118.trans (congrArg some (by kernel_rfl))
 f331:=Tryz.func137.trans (congrArg some (by kernel_rfl))
 f332:=Tryz.func138.trans (congrArg some (by kernel_rfl))
 f343:=Tryz.func140.trans (congrArg some (by kernel_rfl))
 t0:=Tryz.underlying0
 a0:=Tryz.isAgg0
 z0:=Tryz.sizeOf0
 v0:=Tryz.zeroValue0
 t3:=Tryz.underlying3
 a3:=Tryz.isAgg3
 z3:=Tryz.sizeOf3
 v3:=Tryz.zeroValue3
 t4:=Tryz.underlying4
 a4:=Tryz.isAgg4
 z4:=Tryz.sizeOf4
 v4:=Tryz.zeroValue4
 t5:=Tryz.underlying5
 a5:=Tryz.isAgg5
 z5:=Tryz.sizeOf5
 v5:=Tryz.zeroValue5
 t9:=Tryz.underlying9
 a9:=Tryz.isAgg9
 z9:=Tryz.sizeOf9
 v9:=Tryz.zeroValue9
 t28:=Tryz.underlying79
 a28:=Tryz.isAgg79
 z28:=Tryz.sizeOf79
 v28:=Tryz.zeroValue79
 t46:=Tryz.underlying146
 a46:=Tryz.isAgg146
 z46:=Tryz.sizeOf146
 v46:=Tryz.zeroValue146
 t51:=Tryz.underlying42
 a51:=Tryz.isAgg42
 z51:=Tryz.sizeOf42
 v51:=Tryz.zeroValue42
 t53:=Tryz.underlying165
 a53:=Tryz.isAgg165
 z53:=Tryz.sizeOf165
 v53:=Tryz.zeroValue165
 t131:=Tryz.underlying149
 a131:=Tryz.isAgg149
 z131:=Tryz.sizeOf149
 v131:=Tryz.zeroValue149
 t182:=Tryz.underlying157
 a182:=Tryz.isAgg157
 z182:=Tryz.sizeOf157
 v182:=Tryz.zeroValue157
 t183:=Tryz.underlying158
 a183:=Tryz.isAgg158
 z183:=Tryz.sizeOf158
 v183:=Tryz.zeroValue158
 t218:=Tryz.underlying173
 a218:=Tryz.isAgg173
 z218:=Tryz.sizeOf173
 v218:=Tryz.zeroValue173
 t222:=Tryz.underlying177
 a222:=Tryz.isAgg177
 z222:=Tryz.sizeOf177
 v222:=Tryz.zeroValue177
 t228:=Tryz.underlying186
 a228:=Tryz.isAgg186
 z228:=Tryz.sizeOf186
 v228:=Tryz.zeroValue186
 t229:=Tryz.underlying187
 a229:=Tryz.isAgg187
 z229:=Tryz.sizeOf187
 v229:=Tryz.zeroValue187
}

def UX:Go.Shelf.Ren:=⟨fun|6=>61|14=>81|15=>82|20=>95|21=>96|22=>97|23=>98|24=>99|25=>100|26=>101|27=>102|28=>103|29=>104|46=>116|47=>117|48=>118|49=>119|50=>120|57=>134|n=>n,fun|0=>0|3=>3|4=>4|5=>5|9=>9|22=>91|24=>94|25=>99|39=>146|45=>157|46=>158|50=>149|53=>42|55=>165|66=>173|70=>177|76=>186|77=>187|n=>n,fun|n=>n⟩
theorem f7:Go.Proofs.SlLaysF0.n6 Tryz.prog UX:= {
 mixed:=by kernel_rfl
 f6:=⟨Tryz.f61.name,by decide,Tryz.func61.trans (congrArg some (by kernel_rfl))⟩
 f14:=⟨Tryz.f81.name,by decide,Tryz.func81.trans (congrArg some (by kernel_rfl))⟩
 f15:=Tryz.func82.trans (congrArg some (by kernel_rfl))
 f20:=⟨Tryz.f95.name,by decide,Tryz.func95.trans (congrArg some (by kernel_rfl))⟩
 f21:=⟨Tryz.f96.name,by decide,Tryz.func96.trans (congrArg some (by kernel_rfl))⟩
 f22:=⟨Tryz.f97.name,by decide,Tryz.func97.trans (congrArg some (by kernel_rfl))⟩
 f23:=⟨Tryz.f98.name,by decide,Tryz.func98.trans (congrArg some (by kernel_rfl))⟩
 f24:=⟨Tryz.f99.name,by decide,Tryz.func99.trans (congrArg some (by kernel_rfl))⟩
 f25:=⟨Tryz.f100.name,by decide,Tryz.func100.trans (congrArg some (by kernel_rfl))⟩
 f26:=⟨Tryz.f101.name,by decide,Tryz.func101.trans (congrArg some (by kernel_rfl))⟩
 f27:=⟨Tryz.f102.name,by decide,Tryz.func102.trans (congrArg some (by kernel_rfl))⟩
 f28:=Tryz.func103.trans (congrArg some (by kernel_rfl))
 f29:=Tryz.func104.trans (congrArg some (by kernel_rfl))
 f46:=⟨Tryz.f116.name,by decide,Tryz.func116.trans (congrArg some (by kernel_rfl))⟩
 f47:=Tryz.func117.trans (congrArg some (by kernel_rfl))
 f48:=Tryz.func118.trans (congrArg some (by kernel_rfl))
 f49:=⟨Tryz.f119.name,by decide,Tryz.func119.trans (congrArg some (by kernel_rfl))⟩
 f50:=⟨Tryz.f120.name,by decide,Tryz.func120.trans (congrArg some (by kernel_rfl))⟩
 f57:=⟨Tryz.f134.name,by decide,Tryz.func134.trans (congrArg some (by kernel_rfl))⟩
 t0:=Tryz.underlying0
 a0:=Tryz.isAgg0
 z0:=Tryz.sizeOf0
 v0:=Tryz.zeroValue0
 t3:=Tryz.underlying3
 a3:=Tryz.isAgg3
 z3:=Tryz.sizeOf3
 v3:=Tryz.zeroValue3
 t4:=Tryz.underlying4
 a4:=Tryz.isAgg4
 z4:=Tryz.sizeOf4
 v4:=Tryz.zeroValue4
 t5:=Tryz.underlying5
 a5:=Tryz.isAgg5
 z5:=Tryz.sizeOf5
 v5:=Tryz.zeroValue5
 t9:=Tryz.underlying9
 a9:=Tryz.isAgg9
 z9:=Tryz.sizeOf9
 v9:=Tryz.zeroValue9
 t22:=Tryz.underlying91
 a22:=Tryz.isAgg91
 z22:=Tryz.sizeOf91
 v22:=Tryz.zeroValue91
 t25:=Tryz.underlying99
 a25:=Tryz.isAgg99
 z25:=Tryz.sizeOf99
 v25:=Tryz.zeroValue99
 t39:=Tryz.underlying146
 a39:=Tryz.isAgg146
 z39:=Tryz.sizeOf146
 v39:=Tryz.zeroValue146
 t45:=Tryz.underlying157
 a45:=Tryz.isAgg157
 z45:=Tryz.sizeOf157
 v45:=Tryz.zeroValue157
 t46:=Tryz.underlying158
 a46:=Tryz.isAgg158
 z46:=Tryz.sizeOf158
 v46:=Tryz.zeroValue158
 t50:=Tryz.underlying149
 a50:=Tryz.isAgg149
 z50:=Tryz.sizeOf149
 v50:=Tryz.zeroValue149
 t53:=Tryz.underlying42
 a53:=Tryz.isAgg42
 z53:=Tryz.sizeOf42
 v53:=Tryz.zeroValue42
 t55:=Tryz.underlying165
 a55:=Tryz.isAgg165
 z55:=Tryz.sizeOf165
 v55:=Tryz.zeroValue165
 t66:=Tryz.underlying173
 a66:=Tryz.isAgg173
 z66:=Tryz.sizeOf173
 v66:=Tryz.zeroValue173
 t70:=Tryz.underlying177
 a70:=Tryz.isAgg177
 z70:=Tryz.sizeOf177
 v70:=Tryz.zeroValue177
 t76:=Tryz.underlying186
 a76:=Tryz.isAgg186
 z76:=Tryz.sizeOf186
 v76:=Tryz.zeroValue186
 t77:=Tryz.underlying187
 a77:=Tryz.isAgg187
 z77:=Tryz.sizeOf187
 v77:=Tryz.zeroValue187
}

def eI(x:Int):List Value:= [.int .i64 x]
theorem Jl:Enc eI 1:=⟨fun _=>rfl,fun x v hv=>by simp [eI] at hv;subst hv;rfl⟩
theorem WF{a:Option Nat}{cap:Nat}{l:List Int}(h:l.length<4611686018427387904):Ct Tryz.prog 94 [sl a l.length cap] [Aa a cap 1 3 eI l] (fun _:Unit=>.tuple #[]) (fun _=> [Aa a cap 1 3 eI (l.mergeSort fun x y=>decide (x<=y))]):=
 Yq f8 eI (fun _=>rfl) a cap 3 l h
end Go.Proofs.YtoakfknnaiapiaaGreat
namespace Go.Proofs.YtoakfknnaiapiaaGreat
open Go.RowKit Go.SL Go.ShM Go.SvM
set_option maxHeartbeats 1000000
set_option maxRecDepth 20000
set_option linter.all false
theorem cf94:DF Tryz.prog 94=true:=by kernel_rfl
theorem dS:el Tryz.prog 3=some (1,8):=by kernel_rfl
theorem PL:fo Tryz.prog 94 0=some (0,41):=by kernel_rfl
theorem PK:fo Tryz.prog 94 1=some (16,3):=by kernel_rfl
theorem Dv:Tryz.prog.underlying 79=some (.slice 3):=by kernel_rfl
theorem UA:zr Tryz.prog 3=some [.int .i64 0]:=by kernel_rfl
theorem MP{b m:Nat}{room tick:Int}{L:List En}{ix:Ix}{g:Nat}{cb:List Value}{X:Ao}{hb:Kp ->Bool}(hg:DF Tryz.prog g=true)(hh: ∀x:En,Ct Tryz.prog g (.pointer (some ⟨x.p,0,none⟩)::cb) [cl x.p 102 [sl x.a x.e.b.length x.cap,.map (some x.m)],Aa x.a x.cap 1 5 (eU .u8 (w:=8)) x.e.b,Bs x.m Dn DY x.e.ls,X] (fun _:Unit=>.bool (hb x.e)) (fun _=> [cl x.p 102 [sl x.a x.e.b.length x.cap,.map (some x.m)],Aa x.a x.cap 1 5 (eU .u8 (w:=8)) x.e.b,Bs x.m Dn DY x.e.ls,X]))(hs:SrtK (L.map En.e))(hn:L.length<=100000000):Ct Tryz.prog 77 [.pointer (some ⟨b,0,none⟩),aU .u8 ix.l,(.func (.func g) #[] cb.toArray)] [cl b 90 [.bool true,.int .i64 room,.int .i64 tick,.int .i64 (((Ap L):Nat):Int),.map (some m)],Bs m By Cc (L.map En.kp),star (Cb 102 5) L,X] (fun q:Option Nat × Nat=>sl q.1 (B9 ix hb (L.map En.e)).length q.2) (fun q=> [cl b 90 [.bool true,.int .i64 room,.int .i64 tick,.int .i64 (((Ap L):Nat):Int),.map (some m)],Bs m By Cc (L.map En.kp),star (Cb 102 5) L,X,Aa q.1 q.2 1 3 eI (B9 ix hb (L.map En.e))]):=by
 refine AY (n:=37) Tryz.func77 I I I fun F w0 Q hret hnorm hp=>?_
 change WC _ _ _ _ _ _ _ (_::_::_::_::F)
 have hixl:=ix.h
 refine A4 fun _ K1=>AB (Pu (k:=.u8) I) I I I ?_
 rintro _ _ ⟨b4,rfl,rfl⟩
 refine A2 (Ag (v:=sl none 0 0) I) I<|A3 K1<|A4 fun _ K2=>A2 (Ag (v:=sl none 0 0) I) I<|CJ eI 1 3 ?_
 refine A3 K2<|A7 fun _ K3=>A4 fun _ K4=>wM I I<|A2 (A9 I) I<|A2 (A1 I De) I<|A2 (A6 I Fg (v:=.map (some m))) I<|AB (Im (κ:=Ky) (β:=Nat) I FZ) I I I ?_
 rintro _ _ ⟨r14,rfl,rfl⟩
 refine A3 K4<|AG<|Ak (σ:=(List En) × (List En) × (List Int) × (Option Nat) × Nat) (fun ⟨ts,dn,out,a,cap⟩=> [(7,sl a out.length cap)]) (fun ⟨ts,dn,out,a,cap⟩=> [Gt m r14 By Cc ((dn++ts).map En.kp) (ts.map En.kp) none,star (Cb 102 5) (dn++ts),Aa a cap 1 3 eI out]) (fun ⟨ts,dn,out,a,cap⟩=>(dn++ts).Perm L/\(out++(B9 ix hb (ts.map En.e))).Perm (B9 ix hb (L.map En.e))/\out.length+ts.length<=L.length) (fun ⟨ts,dn,out,a,cap⟩=>ts.length) ⟨L,[],[],none,0⟩ [2,4,6,14,34,36] Cw fS ?_ ?_ Sub.refl ?_
 ·exact⟨List.Perm.refl _,List.Perm.refl _,Nat.le_of_eq (Nat.zero_add _)⟩
 ·(try dsimp only);exact(Wk.cons Ch Wk.nil)
 rintro⟨ts,dn,out,a,cap⟩ ⟨hpl,hpo,hol⟩ K5 K5
 simp only [List.cons_append,List.nil_append]
 refine A4 fun _ K6=>AB (Kd (κ:=Ky) (β:=Nat) (kf:=By) (vf:=Cc) KH I) I I I ?_
 rintro _ _ (⟨hre,rfl,rfl⟩|⟨k,p,pre,post,hre,rfl,rfl⟩)
 ·skip
  obtain rfl:ts= []:=List.map_eq_nil_iff.1 hre
  have hpf:dn.Perm L:=by rw [List.append_nil] at hpl;exact hpl
  refine Dl (Gt m r14 By Cc ((dn++ []).map En.kp) [] none) (Bs m By Cc (L.map En.kp)) (KA (by rw [List.append_nil];exact hpf.map _)) ?_
  refine Dl (star (Cb 102 5) (dn++ [])) (star (Cb 102 5) L) (Fy (by rw [List.append_nil];exact hpf)) ?_
  have hso:(out.mergeSort fun x y=>decide (x<=y))=(B9 ix hb (L.map En.e)):=UT (by have h:=hpo;rw [show (B9 ix hb (([]:List En).map En.e))= [] from rfl,List.append_nil] at h;exact h) (MQ hs)
  have hsl:out.length=(B9 ix hb (L.map En.e)).length:=by rw [<-hso];exact(List.length_mergeSort _).symm
  refine A2 (BE I) I<|A3 K6<|A7 fun _ K7=>AM I<|Aj<|A5 K3<|A4 fun _ K8=>wM I I<|AB (AE cf94 I (hs:=WF (a:=a) (cap:=cap) (l:=out) (by omega))) I I I ?_
  rintro _ _ ⟨⟨⟩,rfl,hA⟩
  simp only [ca] at hA
  subst hA
  rw [hso]
  refine A3 K8<|A4 fun _ K9=>wM I I<|wA I I<|A3 K9<|AK ?_
  rw [hsl]
  exact hret.goE (a,cap) (BR rfl rfl) rfl
 skip
 obtain⟨pt,x,qt,rfl,hpt,hxk,hqt⟩:=O4 hre
 obtain⟨rfl,rfl⟩:x.e.key=k/\x.p=p:=by unfold En.kp at hxk;exact⟨congrArg Prod.fst hxk,congrArg Prod.snd hxk⟩
 subst hpt;subst hqt
 refine A2 (BE I) I<|A3 K6<|A7 fun _ K10=>Ad I<|AA<|A5 K10<|AG<|A4 fun _ K11=>A2 (Il I) I ?_
 refine Dl (Gt m r14 By Cc ((dn++(pt++x::qt)).map En.kp) (pt.map En.kp++qt.map En.kp) (some (x.e.key,x.p))) (Gt m r14 By Cc ((x::dn++(pt++qt)).map En.kp) ((pt++qt).map En.kp) none) (QX (todo_perm.map _) (List.map_append).symm) ?_
 refine Dl (star (Cb 102 5) (dn++(pt++x::qt))) (star (Cb 102 5) (x::(dn++(pt++qt)))) (Fy todo_perm) ?_
 refine A2 (BE I) I<|A2 (BN I) I<|AB (AZ JG) I I I ?_
 rintro _ _ ⟨b8,rfl,rfl⟩
 refine AX (AV (ys:=Dt x.e.key) I I Hk (h1:=encK.one _) (hv:=by simpa [Value.cells,By] using Aw x.e.key) (hr:=by simp [Value.cells,By])) I I ?_
 rintro _ _ rfl
 refine wA I I<|A3 K11<|A4 fun _ K12=>A2 (A1 I PL) I<|A2 (AI (vs:=x.e.ix.l.flatMap (eU .u8)) I Cv (hl:=by rw [Aw];omega) (hi:=Jf x.e.key)) I ?_
 refine A2 (NY I Cv) I ?_
 refine A2 (Pp I I LY x.e.ix.h ix.h) I ?_
 refine wM I I<|Ae 24 I (fun hg13=>?_) (fun hg13=>?_)
 ·try simp only [dz] at hg13
  have hix:=hg13
  refine VX 102 5 x (dn++(pt++qt)) ?_
  refine wM I I<|wM I I<|AB (Yr I hg I I I I (hs:=hh x)) I I I ?_
  rintro _ _ ⟨⟨⟩,rfl,hA⟩
  simp only [ca] at hA
  subst hA
  refine VY 102 5 x (dn++(pt++qt)) ?_
  refine A2 (AC I I) I<|A3 K12<|AH I (fun hc1=>?_) (fun hc1=>?_)
  ·try simp only [dz] at hc1
   have hpass:(decide (x.e.ix=ix) && hb x.e)=true:=by rw [d6 hix,hc1];simp
   refine AD<|wM I I<|A2 (A1 I PK) I<|A2 (A6 I BF (v:=.int .i64 x.e.num) (hi:=GU x.e.key)) I<|AB (Br (xs:= [.int .i64 x.e.num]) I Dv UA Fw) I I I ?_
   rintro _ _ ⟨b32,rfl,rfl⟩
   refine AB (B6 (f:=eI) Jl x.e.num I I Dv Dv dS) I I I ?_
   rintro _ _ ⟨a33,cap33,rfl,rfl⟩
   refine wA I I<|AW<|Av (K5 ⟨pt++qt,x::dn,out++ [x.e.num],a33,cap33⟩ (⟨(todo_perm.symm).trans hpl,by have h:=JW hpo;rw [if_pos hpass] at h;exact h,by(try dsimp only);rw [List.length_append,List.length_append];rw [List.length_append,List.length_cons] at hol;simp only [List.length_cons,List.length_nil];omega⟩) (by (try dsimp only);rw [List.length_append,List.length_append,List.length_cons];omega))
  try simp only [dz] at hc1
  have hpass: ¬(decide (x.e.ix=ix) && hb x.e)=true:=by first|(intro h;rw [Bool.and_eq_true,decide_eq_true_eq] at h;exact hix (by show x.e.ix.l=ix.l;rw [h.1]))|(intro h;rw [Bool.and_eq_true] at h;rw [h.2] at hc1;cases hc1)|(intro h;rw [Bool.and_eq_true] at h;exact hc1 h.2)
  refine AA<|Av (K5 ⟨pt++qt,x::dn,out,a,cap⟩ (⟨(todo_perm.symm).trans hpl,by have h:=JW hpo;rw [if_neg hpass] at h;exact h,by(try dsimp only);rw [List.length_append];rw [List.length_append,List.length_cons] at hol;omega⟩) (by (try dsimp only);rw [List.length_append,List.length_append,List.length_cons];omega))
 try simp only [dz] at hg13
 have hix:=hg13
 refine wK I<|wK I<|wK I<|A2 (A8 I I) I<|A3 K12<|AM I ?_
 have hpass: ¬(decide (x.e.ix=ix) && hb x.e)=true:=by first|(intro h;rw [Bool.and_eq_true,decide_eq_true_eq] at h;exact hix (by show x.e.ix.l=ix.l;rw [h.1]))|(intro h;rw [Bool.and_eq_true] at h;rw [h.2] at hc1;cases hc1)|(intro h;rw [Bool.and_eq_true] at h;exact hc1 h.2)
 refine AA<|Av (K5 ⟨pt++qt,x::dn,out,a,cap⟩ (⟨(todo_perm.symm).trans hpl,by have h:=JW hpo;rw [if_neg hpass] at h;exact h,by(try dsimp only);rw [List.length_append];rw [List.length_append,List.length_cons] at hol;omega⟩) (by (try dsimp only);rw [List.length_append,List.length_append,List.length_cons];omega))
end Go.Proofs.YtoakfknnaiapiaaGreat
/-
 A server's requests,what may be asked,what is answered,in plain words. (Conditions:none;no program in sight.)
-/
set_option maxRecDepth 20000
namespace Go.SvM
open Go.SL Go.ShM Go.RowKit
structure Rq where
 kind:B8
 ix:Ix
 num:Int
 at_:Int
 len:Int
 who:Bv
 un:Int
 b:Pt
def CP(r:Rq):List Value:=.int .u8 (r.kind.toNat:Int)::(r.ix.l.flatMap (eU .u8)++ [.int .i64 r.num,.int .i64 r.at_,.int .i64 r.len,.int .u32 (r.who.toNat:Int),.int .i64 r.un,r.b.v])
theorem B5(r:Rq):(CP r).length=23:=by
 unfold CP
 rw [List.length_cons,List.length_append,C7,r.ix.h];rfl
theorem encRq:Enc CP 23:=⟨B5,fun r v hv=>by
 unfold CP at hv
 rw [List.mem_cons,List.mem_append] at hv
 rcases hv with rfl|hv|hv
 ·rfl
 ·obtain⟨a,_,ha⟩:=List.mem_flatMap.1 hv
  exact(Em .u8).one a v ha
 ·simp only [List.mem_cons,List.not_mem_nil,or_false] at hv
  rcases hv with rfl|rfl|rfl|rfl|rfl|rfl <;>rfl⟩
theorem Ci(r:Rq):((CP r).drop 1).take 16=r.ix.l.flatMap (eU .u8):=by
 unfold CP
 rw [List.drop_succ_cons,List.drop_zero]
 exact List.take_left' (by rw [C7,r.ix.h])
theorem To(r:Rq):(CP r).drop 17= [.int .i64 r.num,.int .i64 r.at_,.int .i64 r.len,.int .u32 (r.who.toNat:Int),.int .i64 r.un,r.b.v]:=by
 unfold CP
 rw [List.drop_succ_cons]
 exact List.drop_left' (by rw [C7,r.ix.h])
theorem L6(r:Rq)(j:Nat):(CP r)[17+j]? = [Value.int .i64 r.num,.int .i64 r.at_,.int .i64 r.len,.int .u32 (r.who.toNat:Int),.int .i64 r.un,r.b.v][j]? :=by
 rw [<-To,List.getElem?_drop]
theorem BU(r:Rq):(CP r)[0]? =some (.int .u8 (r.kind.toNat:Int)):=rfl
theorem D4(r:Rq):(CP r)[17]? =some (.int .i64 r.num):=L6 r 0
theorem DK(r:Rq):(CP r)[18]? =some (.int .i64 r.at_):=L6 r 1
theorem GB(r:Rq):(CP r)[19]? =some (.int .i64 r.len):=L6 r 2
theorem Fu(r:Rq):(CP r)[20]? =some (.int .u32 (r.who.toNat:Int)):=L6 r 3
theorem EJ(r:Rq):(CP r)[21]? =some (.int .i64 r.un):=L6 r 4
theorem G5(r:Rq):(CP r)[22]? =some r.b.v:=L6 r 5
theorem Jm(r:Rq):((CP r).drop 20).take 2= [.int .u32 (r.who.toNat:Int),.int .i64 r.un]:=by
 rw [show 20=17+3 from rfl,<-List.drop_drop,To];rfl
theorem CM(r:Rq):((CP r).drop 0).take 23=CP r:=by rw [List.drop_zero];exact List.take_of_length_le (Nat.le_of_eq (B5 r))
def Fc(n f c wh un:Int)(len:Nat)(bn bf bl bb:Bool):Bool:=
 (bn ||decide (n=0)) && (bf ||(decide (f=0) && decide (c=0))) && (bl ||(decide (wh=0) && decide (un=0))) && (bb ||decide (len=0)) && decide (0<=n) && decide (n<255) && decide (0<=un) && decide (un<=1099511627776)
def Le(k n f c wh un:Int)(len:Nat):Bool:=
 (decide (k=1) && Fc n f c wh un len false false false false) ||(decide (k=2) && Fc n f c wh un len true false true true && decide (len<=33554432)) ||
 (decide (k=3) && Fc n f c wh un len true true false false && decide (0<=f) && decide (f<=33554432) && decide (1<=c) && decide (c<=131072)) ||
 (decide (k=4) && Fc n f c wh un len false false true false) ||(decide (k=5) && Fc n f c wh un len false false true false && decide (un=0))
def IE(r:Rq):Bool:=Le (r.kind.toNat:Int) r.num r.at_ r.len (r.who.toNat:Int) r.un r.b.l.length
theorem JI{l:List B8}{n:Nat}(h:l.length=n+1): ∃x r,l=x::r/\r.length=n:=by cases l with
 |nil=>simp at h
 |cons x r=>exact⟨x,r,rfl,by simpa using h⟩
end Go.SvM
