/-
  Contracts of functions that the claim reaches, or the logic and the plain laws that they rest on, or the row over them. (Conditions: none beyond the statement.)
-/
import Derived.Test.YtoakfknnaiapiaaGreatKAW
import Derived.ProofKit
set_option linter.all false
namespace Go.Proofs.YtoakfknnaiapiaaGreat
open Go.RowKit Go.SL Go.ShM Go.SvM Go.ChangeShapes Go.WideShapes Go.ChangeAt
set_option maxHeartbeats 1000000
set_option maxRecDepth 20000
set_option linter.all false

theorem T0{N:Nat} : ∀ {kvs:List KV},kvs.length<=N ->(∀k∈kvs,k.b.l.length<=N) ->N<=1048576 ->C0 (kvs.map KV.kp)<=4000000000000:=by
 intro kvs h1 h2 h3
 have H: ∀l:List KV,(∀k∈l,k.b.l.length<=N) ->C0 (l.map KV.kp)<=l.length*N:=by
  intro l
  induction l with
  |nil=>intro _;exact Nat.zero_le _
  |cons x r ih=>
   intro h
   have e1:=h x (List.mem_cons_self ..)
   have e2:=ih fun k hk=>h k (List.mem_cons_of_mem _ hk)
   rw [List.map_cons,E1,List.length_cons,Nat.add_mul,Nat.one_mul]
   have:(KV.kp x).b.length=x.b.l.length:=rfl
   omega
 have e:=H kvs h2
 have e2:kvs.length*N<=1048576*1048576:=Nat.mul_le_mul (by omega) h3
 omega
theorem Ul{W:World}{N0 N1 N3:Nat}{v1 v2 w3:Value}{kvs1 kvs2:List KV}{ao1 ao2 ao3:Option Addr}{cap1 cap2 cap3:Nat}{room1 tick1 room2 tick2:Int}{fr:Bool}{qs:List AcQ}(hS0:Sv [Lo W] v1 19 EC kvs1 ao1 cap1)(K0:eb W N0 kvs1)(hS1:Sv [Lo W] v2 19 EC kvs2 ao2 cap2)(K1:eb W N1 kvs2)(hS3:Sv [Lo W] w3 27 Cj qs ao3 cap3)(hQ3:gV W N3 qs)(hN:N0+N1+N3<=1048576):
  Ct Tryz.prog 3 [.agg ([.int .i64 room1,.int .i64 tick1,v1]:List Value).toArray,.agg ([.int .i64 room2,.int .i64 tick2,v2]:List Value).toArray,.bool fr,w3] [Lo W] (fun _:Unit=>.bool true) (fun _=> [Lo W]):=
 Wb hS0 K0.1 (by have:=K0.2.1;omega) (fun k hk=>by have:=K0.2.2.1 k hk;omega) (fun k hk=>by have:=K0.2.2.2 k hk;omega) (T0 K0.2.1 K0.2.2.1 (by omega)) hS1 K1.1 (by have:=K1.2.1;omega) (fun k hk=>by have:=K1.2.2.1 k hk;omega) (fun k hk=>by have:=K1.2.2.2 k hk;omega) (T0 K1.2.1 K1.2.2.1 (by omega)) hS3 (fun a ha=>(hQ3.2 a ha).1) (by have a:=K0.2.1;have b:=K1.2.1;have c:=hQ3.1;omega)

theorem JX(os:Os)(started:os.Started)(H:Type)(enc:TypeId × Value ->H)(F:Stop.Interp):
  ReturnsInHanded {} Tryz.checked os 3 .any ((Rows.OpenSpec.upto Rows.serverPlaysSpec).pre6 enc Tryz.prog Tryz.f3 Rows.serverPlaysUptoRow.domain false) (((Rows.OpenSpec.upto Rows.serverPlaysSpec).at F).post enc Tryz.prog Tryz.f3 false true false false):=by
 refine returnsInHanded_of_cond (C:=Tryz.checked) (s:=Rows.OpenSpec.upto Rows.serverPlaysSpec) (k:=Rows.uptoSmall) rfl own0 started (by kernel_rfl) Tryz.func3
  (OpenSpec.witness (enc:=enc) (C:=Tryz.checked) (s:=Rows.OpenSpec.upto Rows.serverPlaysSpec) (k:=Rows.uptoSmall) rfl false ⟨#[], #[.agg #[.int .i64 0,.int .i64 0,.slice none 0 0],.agg #[.int .i64 0,.int .i64 0,.slice none 0 0],.bool false,.slice none 0 0],[]⟩ 8 (by kernel_rfl) (by kernel_rfl) (by kernel_rfl) (x:=([.agg [.lit (.int .i64 0),.lit (.int .i64 0),.nil],.agg [.lit (.int .i64 0),.lit (.int .i64 0),.nil],.lit (.bool false),.nil],[],[])) (by kernel_rfl) rfl (by kernel_rfl)) ?_
 intro W base args ds gs before hval hW _ hk _
 have hW':=hW
 obtain⟨p,q,hA0,hV,rfl,hfz,hnd⟩:=hW
 have hA:DataW.TrodAll enc Tryz.prog W 0 (fun _=>true) true Tryz.f3.params.toList args.toList ds p:=hA0
 rw [Tryz.params3] at hA hval
 clear hA0
 obtain⟨v0,vs0,d0,ds0,p0,q0,hargs,rfl,rfl,h0,r0⟩:=trodAll_cons hA
 obtain⟨v1,vs1,d1,ds1,p1,q1,rfl,rfl,rfl,h1,r1⟩:=trodAll_cons r0
 obtain⟨v2,vs2,d2,ds2,p2,q2,rfl,rfl,rfl,h2,r2⟩:=trodAll_cons r1
 obtain⟨v3,vs3,d3,ds3,p3,q3,rfl,rfl,rfl,h3,r3⟩:=trodAll_cons r2
 obtain⟨rfl,rfl,rfl⟩:=trodAll_nil r3
 obtain rfl:args= #[v0,v1,v2,v3]:=by cases args;simp_all
 obtain⟨rfl,rfl⟩:=trodVars_none hV
 obtain⟨room0,tick0,vv0,kvs0,ao0,cap0,rfl,wr0,wt0,hS0,K0⟩:=Mn ct (N:=Rows.uptoBulk d0) Tryz.underlying24 (hval 0 24 v0 rfl rfl) h0 Y4 Y1 Xy Y2 Xz Y3 Y0 (Nat.le_refl _)
 obtain⟨room1,tick1,vv1,kvs1,ao1,cap1,rfl,wr1,wt1,hS1,K1⟩:=Mn ct (N:=Rows.uptoBulk d1) Tryz.underlying24 (hval 1 24 v1 rfl rfl) h1 Y4 Y1 Xy Y2 Xz Y3 Y0 (Nat.le_refl _)
 obtain⟨bb2,rfl,rfl,rfl⟩:=Go.RowKit.open_bool Tryz.underlying4 (hval 2 4 v2 rfl rfl) h2
 obtain⟨qs3,ao3,cap3,hS3,hQ3⟩:=Ut ct (N:=Rows.uptoBulk d3) Tryz.underlying25 (hval 3 25 v3 rfl rfl) h3 dh df db Y2 Xz (Nat.le_refl _)
 refine((Ul (W:=W) hS0 K0 hS1 K1 hS3 hQ3 (by have q:=bulks.bound hk;simp [Rows.uptoBulkAll] at q;omega)).calls W (ZD W)).mono fun e w' ⟨_,he,hs,hk'⟩=>⟨_,he,?_⟩
 have hpost:Rows.serverPlaysSpec.post enc Tryz.prog Tryz.f3 false true false false W #[_,_,_,_] (.bool true) w':=XC (bt:=4) bZ (by kernel_rfl) hW' rfl rfl Tryz.underlying4 rfl (Pb hs hk')
 exact hpost
theorem serverPlays_holds:Rows.ServerPlaysUptoSaid:=
 OpenClaim.holds_of_cond 3 Tryz.f3 rfl rfl rfl rfl rfl rfl rfl ⟨rfl,rfl,rfl,rfl,rfl⟩ rfl rfl rfl rfl rfl (by kernel_rfl) Tryz.func3 (Xh (P:=Tryz.prog) fun Q q0 q1 q2 q3 q4 q5 q6 q7 q8 q9 q10 q11 q12 q13 q14 q15 q16 q17 q18 q19 q20 q21 q22 q23 q24 q25=>by unfold joinedFacts;simp only [q0,q1,q2,q3,q4,q5,q6,q7,q8,q9,q10,q11,q12,q13,q14,q15,q16,q17,q18,q19,q20,q21,q22,q23,q24,q25];simp only [bZ,ce,cZ,cz,SH,dE,Uv,cv,fL];kernel_rfl)
  (of_decide_eq_true (by kernel_rfl)) (by unfold Func.isWrapper;first|(rw [if_pos (by decide+kernel)];kernel_rfl)|(rw [if_neg (by decide+kernel)];exact⟨rfl,rfl⟩))
  (fun os started H enc _ F=>JX os started H enc F)
end Go.Proofs.YtoakfknnaiapiaaGreat
-- Names_ct
