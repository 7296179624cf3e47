/-
  Contracts of functions that the claim reaches, or the logic and the plain laws that they rest on, or the row over them. (Conditions: none beyond the statement.)
-/
import Derived.Test.YtoakfknnaiapiaaGreatKAB
import Derived.Test.YtoakfknnaiapiaaGreatKAA
import Derived.Laws.BytesString
set_option linter.all false
namespace Go.Proofs.YtoakfknnaiapiaaGreat
open Go.RowKit Go.SL Go.ShM Go.SvM
set_option maxHeartbeats 1000000
set_option maxRecDepth 20000
set_option linter.all false
theorem aX:DF Tryz.prog 45=true:=by kernel_rfl
theorem aW:DF Tryz.prog 46=true:=by kernel_rfl
theorem JR:dH Tryz.prog 44=some [(0,42),(1,3)]:=by kernel_rfl
theorem Cf:fo Tryz.prog 44 0=some (0,42):=by kernel_rfl
theorem Bm:fo Tryz.prog 44 1=some (1,3):=by kernel_rfl
theorem C3:fo Tryz.prog 47 0=some (0,39):=by kernel_rfl
theorem CU:fo Tryz.prog 47 1=some (1,41):=by kernel_rfl
theorem Bq:fo Tryz.prog 47 2=some (17,3):=by kernel_rfl
theorem CH:fo Tryz.prog 47 3=some (18,3):=by kernel_rfl
theorem Cy:fo Tryz.prog 47 4=some (19,3):=by kernel_rfl
theorem BS:fo Tryz.prog 47 5=some (20,44):=by kernel_rfl
theorem CG:fo Tryz.prog 47 6=some (22,45):=by kernel_rfl
theorem Wa:SG Tryz.prog 47=some ([.int .u8 0,.int .u8 0,.int .u8 0,.int .u8 0,.int .u8 0,.int .u8 0,.int .u8 0,.int .u8 0,.int .u8 0,.int .u8 0,.int .u8 0,.int .u8 0,.int .u8 0,.int .u8 0,.int .u8 0,.int .u8 0,.int .u8 0,.int .i64 0,.int .i64 0,.int .i64 0,.int .u32 0,.int .i64 0,.slice none 0 0],[(0,1),(1,16),(17,1),(18,1),(19,1),(20,2),(22,1)]):=by kernel_rfl
theorem BI:sz Tryz.prog 42=some 1:=by kernel_rfl
theorem DD:sz Tryz.prog 44=some 2:=by kernel_rfl
theorem Gi:sz Tryz.prog 45=some 1:=by kernel_rfl
theorem Z4:sz Tryz.prog 47=some 23:=by kernel_rfl
theorem Dw:tk Tryz.prog 39=some none:=by kernel_rfl
theorem BX:tk Tryz.prog 42=some none:=by kernel_rfl
theorem EE:tk Tryz.prog 44=some (some 2):=by kernel_rfl
theorem Yx:zr Tryz.prog 47=some [.int .u8 0,.int .u8 0,.int .u8 0,.int .u8 0,.int .u8 0,.int .u8 0,.int .u8 0,.int .u8 0,.int .u8 0,.int .u8 0,.int .u8 0,.int .u8 0,.int .u8 0,.int .u8 0,.int .u8 0,.int .u8 0,.int .u8 0,.int .i64 0,.int .i64 0,.int .i64 0,.int .u32 0,.int .i64 0,.slice none 0 0]:=by kernel_rfl
theorem D7{v w:Value}(h:v=w:=by first|(congr 1;done)|(congr 1;simp [Le,Fc, *];done)|(congr 1;simp [Le,Fc, *];omega)|(congr 1;rw [Bool.eq_iff_iff];simp [Le,Fc, *];omega)|(congr 1;rw [Bool.eq_iff_iff];simp [Le,Fc] at* <;>omega)):v=w:=h
theorem Kn{n:Int} :Ct Tryz.prog 46 [.int .i64 n] [] (fun _:Unit=>.bool (decide (0<=n) && decide (n<255))) (fun _=> []):=by
 refine AY (n:=9) Tryz.func46 I I I fun F w0 Q hret hnorm hp=>?_
 change WC _ _ _ _ _ _ _ (F)
 refine A4 fun _ K1=>wA I I<|A3 K1<|A4 fun _ K2=>wM I I<|A2 (Dm I I) I ?_
 refine wM I I<|Ae 5 I (fun hg3=>?_) (fun hg3=>?_)
 ·try simp only [dz] at hg3
  refine wM I I<|A2 (Bt I I) I<|A2 (AC I I) I<|wA I I<|A3 K2<|AK ?_
  exact hret.goE () (BR rfl rfl) D7
 try simp only [dz] at hg3
 refine wK I<|wK I<|A2 (A8 I I) I<|wA I I<|A3 K2<|AK ?_
 exact hret.goE () (BR rfl rfl) D7

theorem MO{n:Int} :Ct Tryz.prog 45 [.int .i64 n] [] (fun _:Unit=>.bool (decide (0<=n) && decide (n<=1099511627776))) (fun _=> []):=by
 refine AY (n:=9) Tryz.func45 I I I fun F w0 Q hret hnorm hp=>?_
 change WC _ _ _ _ _ _ _ (F)
 refine A4 fun _ K1=>wA I I<|A3 K1<|A4 fun _ K2=>wM I I<|A2 (Dm I I) I ?_
 refine wM I I<|Ae 5 I (fun hg3=>?_) (fun hg3=>?_)
 ·try simp only [dz] at hg3
  refine wM I I<|A2 (GI I I) I ?_
  refine A2 (AC I I) I<|wA I I<|A3 K2<|AK ?_
  exact hret.goE () (BR rfl rfl) D7
 try simp only [dz] at hg3
 refine wK I<|wK I<|A2 (A8 I I) I<|wA I I<|A3 K2<|AK ?_
 exact hret.goE () (BR rfl rfl) D7

theorem ZX{k n f c wh un:Int}{x0 x1 x2 x3 x4 x5 x6 x7 x8 x9 x10 x11 x12 x13 x14 x15:Int}{ao:Option Addr}{len cap:Nat} :Ct Tryz.prog 67 [.agg [.int .u8 k,.int .u8 x0,.int .u8 x1,.int .u8 x2,.int .u8 x3,.int .u8 x4,.int .u8 x5,.int .u8 x6,.int .u8 x7,.int .u8 x8,.int .u8 x9,.int .u8 x10,.int .u8 x11,.int .u8 x12,.int .u8 x13,.int .u8 x14,.int .u8 x15,.int .i64 n,.int .i64 f,.int .i64 c,.int .u32 wh,.int .i64 un,.slice ao len cap].toArray] [] (fun _:Unit=>.bool (Le k n f c wh un len)) (fun _=> []):=by
 refine AY (n:=128) Tryz.func67 I I I fun F w0 Q hret hnorm hp=>?_
 change WC _ _ _ _ _ _ _ (F)
 refine A4 fun _ K1=>AB (Ay I I) I I I ?_
 rintro _ _ ⟨b1,rfl,rfl⟩
 refine wA I I<|A3 K1<|A4 fun _ K2=>A2 (A1 I C3) I<|A2 (A6 I Dw) I ?_
 refine A2 (A1 I CU) I<|A2 (AI I Cv) I ?_
 refine A2 (Ah Wa I) I<|AB (AZ Yx) I I I ?_
 rintro _ _ ⟨b3,rfl,rfl⟩
 refine AX (AV I I Z4) I I ?_
 rintro _ _ rfl
 refine A3 K2<|A4 fun _ K3=>wA I I<|A3 K3<|A7 fun _ K4=>A4 fun _ K5=>A2 (A1 I C3) I<|A2 (A6 I Dw) I ?_
 refine A3 K5<|AG<|A4 fun _ K6=>?_
 first|refine As (Ab (j:=1) rfl rfl) rfl rfl rfl ?_|refine As (CW rfl rfl) rfl rfl rfl ?_
 refine wA I I<|A3 K6<|AH I (fun hc0=>?_) (fun hc0=>?_)
 ·try simp only [dz] at hc0
  refine AA<|A5 K4<|A4 fun _ K7=>wM I I<|wM I I<|A2 (A1 I Bq) I<|A2 (A6 I BF) I ?_
  refine A2 (A1 I Bq) I<|A2 (A6 I BF) I ?_
  first|refine As (Ab rfl rfl) rfl rfl rfl ?_|refine As (CW rfl rfl) rfl rfl rfl ?_
  refine A2 (AC I I) I<|wM I I<|Ae 98 I (fun hg8=>?_) (fun hg8=>?_)
  ·try simp only [dz] at hg8
   refine A2 (A1 I CH) I<|A2 (A6 I BF) I ?_
   refine A2 (A1 I CH) I<|A2 (A6 I BF) I ?_
   first|refine As (Ab rfl rfl) rfl rfl rfl ?_|refine As (CW rfl rfl) rfl rfl rfl ?_
   refine A2 (AC I I) I<|wM I I<|Ae 105 I (fun hg9=>?_) (fun hg9=>?_)
   ·try simp only [dz] at hg9
    refine A2 (A1 I Cy) I<|A2 (A6 I BF) I ?_
    refine A2 (A1 I Cy) I<|A2 (A6 I BF) I ?_
    first|refine As (Ab rfl rfl) rfl rfl rfl ?_|refine As (CW rfl rfl) rfl rfl rfl ?_
    refine A2 (AC I I) I<|wM I I<|Ae 112 I (fun hg10=>?_) (fun hg10=>?_)
    ·try simp only [dz] at hg10
     refine A2 (A1 I BS) I<|A2 (AI I EE) I ?_
     refine A2 (A1 I BS) I<|A2 (AI I EE) I ?_
     refine A2 (Na I I JR (EqL.sc BX I I (DN MU _ _) (EqL.sc BF I I (DN Vg _ _) EqL.nil))) I ?_
     refine A2 (AC I I) I<|wM I I<|Ae 119 I (fun hg11=>?_) (fun hg11=>?_)
     ·try simp only [dz] at hg11
      refine A2 (A1 I CG) I<|A2 (A6 I Bg) I ?_
      first|refine As (BA rfl rfl BQ) rfl rfl rfl ?_|refine As (Al rfl rfl BQ) rfl rfl rfl ?_
      refine A2 (A1 I CG) I<|A2 (A6 I Bg) I ?_
      first|refine As (BA rfl rfl BQ) rfl rfl rfl ?_|refine As (Al rfl rfl BQ) rfl rfl rfl ?_
      refine A2 (Ab I I) I<|A2 (AC I I) I<|wA I I<|A3 K7<|AK ?_
      exact hret.goE () (BR rfl rfl) D7
     try simp only [dz] at hg11
     refine wK I<|wK I<|wK I<|wK I<|wK I<|wK I<|wK I<|A2 (A8 I I) I<|wA I I<|A3 K7<|AK ?_
     exact hret.goE () (BR rfl rfl) D7
    try simp only [dz] at hg10
    refine wK I<|wK I<|wK I<|wK I<|wK I<|A2 (A8 I I) I<|wM I I<|wK I<|wK I<|wK I<|wK I<|wK I<|wK I<|wK I<|A2 (A8 I I) I ?_
    refine wA I I<|A3 K7<|AK ?_
    exact hret.goE () (BR rfl rfl) D7
   try simp only [dz] at hg9
   refine wK I<|wK I<|wK I<|wK I<|wK I<|A2 (A8 I I) I<|wM I I<|wK I<|wK I<|wK I<|wK I<|wK I<|A2 (A8 I I) I<|wM I I<|wK I ?_
   refine wK I<|wK I<|wK I<|wK I<|wK I<|wK I<|A2 (A8 I I) I<|wA I I<|A3 K7<|AK ?_
   exact hret.goE () (BR rfl rfl) D7
  try simp only [dz] at hg8
  refine wK I<|wK I<|wK I<|wK I<|wK I<|A2 (A8 I I) I<|wM I I<|wK I<|wK I<|wK I<|wK I<|wK I<|A2 (A8 I I) I<|wM I I<|wK I ?_
  refine wK I<|wK I<|wK I<|wK I<|A2 (A8 I I) I<|wM I I<|wK I<|wK I<|wK I<|wK I<|wK I<|wK I<|wK I<|A2 (A8 I I) I<|wA I I ?_
  refine A3 K7<|AK ?_
  exact hret.goE () (BR rfl rfl) D7
 try simp only [dz] at hc0
 refine A4 fun _ K12=>?_
 first|refine As (Ab (j:=2) rfl rfl) rfl rfl rfl ?_|refine As (CW rfl rfl) rfl rfl rfl ?_
 refine wA I I<|A3 K12<|AH I (fun hc1=>?_) (fun hc1=>?_)
 ·try simp only [dz] at hc1
  refine A7 fun _ K13=>BC CE [cl b1 47 [.int .u8 k,.int .u8 x0,.int .u8 x1,.int .u8 x2,.int .u8 x3,.int .u8 x4,.int .u8 x5,.int .u8 x6,.int .u8 x7,.int .u8 x8,.int .u8 x9,.int .u8 x10,.int .u8 x11,.int .u8 x12,.int .u8 x13,.int .u8 x14,.int .u8 x15,.int .i64 n,.int .i64 f,.int .i64 c,.int .u32 wh,.int .i64 un,.slice ao len cap]] (fun i=>([2,2,2,2,2,2,2,1,2,1,2,1]:List Nat).getD i 0) ?_
  refine jP 0 I (A1 I Bq) I hp<|jT 1 I (A6 I BF) I hp AQ ?_
  refine jP 2 I (A1 I BS) I hp<|jT 3 I (AI I EE) I hp AQ ?_
  refine jP 4 I (A1 I CG) I hp<|jT 5 I (A6 I Bg) I hp AQ ?_
  refine jP 6 I (A1 I Bq) I hp<|jO 7<|Cg I (Ar I I Fw) I I I ?_
  rintro _ _ rfl
  refine⟨(fun _=>AQ),?_⟩
  refine jP 8 I (A1 I BS) I hp<|jO 9<|Cg I (AV I I DD) I I I ?_
  rintro _ _ rfl
  refine⟨(fun _=>AQ),?_⟩
  refine jP 10 I (A1 I CG) I hp<|jO 11<|Cg I (Ar I I Gi) I I I ?_
  rintro _ _ rfl
  refine⟨(fun _=>AQ),?_⟩
  refine jD<|A5 K13<|AD<|A2 (A1 I Bq) I<|A2 (A6 I BF) I ?_
  refine AB (AE aW I (hs:=Kn)) I I I ?_
  rintro _ _ ⟨⟨⟩,rfl,hA⟩
  simp only [ca] at hA
  subst hA
  refine wM I I<|Ae 28 I (fun hg14=>?_) (fun hg14=>?_)
  ·try simp only [dz] at hg14
   refine A2 (A1 I BS) I<|A2 (A1 I Bm) I<|A2 (A6 I BF) I ?_
   refine AB (AE aX I (hs:=MO)) I I I ?_
   rintro _ _ ⟨⟨⟩,rfl,hA⟩
   simp only [ca] at hA
   subst hA
   refine A2 (AC I I) I<|wM I I<|Ae 34 I (fun hg15=>?_) (fun hg15=>?_)
   ·try simp only [dz] at hg15
    refine A2 (A1 I CG) I<|A2 (A6 I Bg) I ?_
    first|refine As (BA rfl rfl BQ) rfl rfl rfl ?_|refine As (Al rfl rfl BQ) rfl rfl rfl ?_
    refine A2 (D5 (j:=33554432) I I) I ?_
    refine A2 (AC I I) I<|wA I I<|AW<|A5 K4<|A4 fun _ K16=>wM I I<|wM I I<|Ae 91 I (fun hg17=>?_) (fun hg17=>?_)
    ·try simp only [dz] at hg17
     refine A2 (A1 I Bq) I<|A2 (A6 I BF) I ?_
     refine A2 (A1 I Bq) I<|A2 (A6 I BF) I ?_
     first|refine As (Ab rfl rfl) rfl rfl rfl ?_|refine As (CW rfl rfl) rfl rfl rfl ?_
     refine A2 (AC I I) I<|wM I I<|Ae 98 I (fun hg18=>?_) (fun hg18=>?_)
     ·try simp only [dz] at hg18
      refine A2 (A1 I CH) I<|A2 (A6 I BF) I ?_
      refine A2 (A1 I CH) I<|A2 (A6 I BF) I ?_
      first|refine As (Ab rfl rfl) rfl rfl rfl ?_|refine As (CW rfl rfl) rfl rfl rfl ?_
      refine A2 (AC I I) I<|wM I I<|Ae 105 I (fun hg19=>?_) (fun hg19=>?_)
      ·try simp only [dz] at hg19
       refine A2 (A1 I Cy) I<|A2 (A6 I BF) I ?_
       refine A2 (A1 I Cy) I<|A2 (A6 I BF) I ?_
       first|refine As (Ab rfl rfl) rfl rfl rfl ?_|refine As (CW rfl rfl) rfl rfl rfl ?_
       refine A2 (AC I I) I<|wM I I<|Ae 112 I (fun hg20=>?_) (fun hg20=>?_)
       ·try simp only [dz] at hg20
        refine A2 (A1 I BS) I<|A2 (AI I EE) I ?_
        refine A2 (A1 I BS) I<|A2 (AI I EE) I ?_
        refine A2 (Na I I JR (EqL.sc BX I I (DN MU _ _) (EqL.sc BF I I (DN Vg _ _) EqL.nil))) I ?_
        refine A2 (AC I I) I<|wM I I<|Ae 119 I (fun hg21=>?_) (fun hg21=>?_)
        ·try simp only [dz] at hg21
         refine A2 (A1 I CG) I<|A2 (A6 I Bg) I ?_
         first|refine As (BA rfl rfl BQ) rfl rfl rfl ?_|refine As (Al rfl rfl BQ) rfl rfl rfl ?_
         refine A2 (A1 I CG) I<|A2 (A6 I Bg) I ?_
         first|refine As (BA rfl rfl BQ) rfl rfl rfl ?_|refine As (Al rfl rfl BQ) rfl rfl rfl ?_
         refine A2 (Ab I I) I<|A2 (AC I I) I<|wA I I<|A3 K16<|AK ?_
         exact hret.goE () (BR rfl rfl) D7
        try simp only [dz] at hg21
        refine wK I<|wK I<|wK I<|wK I<|wK I<|wK I<|wK I<|A2 (A8 I I) I<|wA I I<|A3 K16<|AK ?_
        exact hret.goE () (BR rfl rfl) D7
       try simp only [dz] at hg20
       refine wK I<|wK I<|wK I<|wK I<|wK I<|A2 (A8 I I) I<|wM I I<|wK I<|wK I<|wK I<|wK I<|wK I<|wK I<|wK I<|A2 (A8 I I) I ?_
       refine wA I I<|A3 K16<|AK ?_
       exact hret.goE () (BR rfl rfl) D7
      try simp only [dz] at hg19
      refine wK I<|wK I<|wK I<|wK I<|wK I<|A2 (A8 I I) I<|wM I I<|wK I<|wK I<|wK I<|wK I<|wK I<|A2 (A8 I I) I<|wM I I<|wK I ?_
      refine wK I<|wK I<|wK I<|wK I<|wK I<|wK I<|A2 (A8 I I) I<|wA I I<|A3 K16<|AK ?_
      exact hret.goE () (BR rfl rfl) D7
     try simp only [dz] at hg18
     refine wK I<|wK I<|wK I<|wK I<|wK I<|A2 (A8 I I) I<|wM I I<|wK I<|wK I<|wK I<|wK I<|wK I<|A2 (A8 I I) I<|wM I I<|wK I ?_
     refine wK I<|wK I<|wK I<|wK I<|A2 (A8 I I) I<|wM I I<|wK I<|wK I<|wK I<|wK I<|wK I<|wK I<|wK I<|A2 (A8 I I) I<|wA I I ?_
     refine A3 K16<|AK ?_
     exact hret.goE () (BR rfl rfl) D7
    try simp only [dz] at hg17
    refine wK I<|wK I<|wK I<|wK I<|wK I<|A2 (A8 I I) I<|wM I I<|wK I<|wK I<|wK I<|wK I<|wK I<|A2 (A8 I I) I<|wM I I<|wK I ?_
    refine wK I<|wK I<|wK I<|wK I<|A2 (A8 I I) I<|wM I I<|wK I<|wK I<|wK I<|wK I<|wK I<|A2 (A8 I I) I<|wM I I<|wK I<|wK I ?_
    refine wK I<|wK I<|wK I<|wK I<|wK I<|A2 (A8 I I) I<|wA I I<|A3 K16<|AK ?_
    exact hret.goE () (BR rfl rfl) D7
   try simp only [dz] at hg15
   refine wK I<|wK I<|wK I<|wK I<|A2 (A8 I I) I<|wA I I<|AW<|A5 K4<|A4 fun _ K22=>wM I I<|wM I I<|wK I<|wK I<|wK I<|wK I ?_
   refine wK I<|A2 (A8 I I) I<|wM I I<|wK I<|wK I<|wK I<|wK I<|wK I<|A2 (A8 I I) I<|wM I I<|wK I<|wK I<|wK I<|wK I<|wK I ?_
   refine A2 (A8 I I) I<|wM I I<|wK I<|wK I<|wK I<|wK I<|wK I<|A2 (A8 I I) I<|wM I I<|wK I<|wK I<|wK I<|wK I<|wK I<|wK I ?_
   refine wK I<|A2 (A8 I I) I<|wA I I<|A3 K22<|AK ?_
   exact hret.goE () (BR rfl rfl) D7
  try simp only [dz] at hg14
  refine wK I<|wK I<|wK I<|wK I<|A2 (A8 I I) I<|wM I I<|wK I<|wK I<|wK I<|wK I<|A2 (A8 I I) I<|wA I I<|AW<|A5 K4<|A4 fun _ K23=>?_
  refine wM I I<|wM I I<|wK I<|wK I<|wK I<|wK I<|wK I<|A2 (A8 I I) I<|wM I I<|wK I<|wK I<|wK I<|wK I<|wK I<|A2 (A8 I I) I ?_
  refine wM I I<|wK I<|wK I<|wK I<|wK I<|wK I<|A2 (A8 I I) I<|wM I I<|wK I<|wK I<|wK I<|wK I<|wK I<|A2 (A8 I I) I<|wM I I ?_
  refine wK I<|wK I<|wK I<|wK I<|wK I<|wK I<|wK I<|A2 (A8 I I) I<|wA I I<|A3 K23<|AK ?_
  exact hret.goE () (BR rfl rfl) D7
 try simp only [dz] at hc1
 refine A4 fun _ K24=>?_
 first|refine As (Ab (j:=3) rfl rfl) rfl rfl rfl ?_|refine As (CW rfl rfl) rfl rfl rfl ?_
 refine wA I I<|A3 K24<|AH I (fun hc2=>?_) (fun hc2=>?_)
 ·try simp only [dz] at hc2
  refine A7 fun _ K25=>BC CE [cl b1 47 [.int .u8 k,.int .u8 x0,.int .u8 x1,.int .u8 x2,.int .u8 x3,.int .u8 x4,.int .u8 x5,.int .u8 x6,.int .u8 x7,.int .u8 x8,.int .u8 x9,.int .u8 x10,.int .u8 x11,.int .u8 x12,.int .u8 x13,.int .u8 x14,.int .u8 x15,.int .i64 n,.int .i64 f,.int .i64 c,.int .u32 wh,.int .i64 un,.slice ao len cap]] (fun i=>([2,2,2,2,2,2,2,1,2,1,2,1]:List Nat).getD i 0) ?_
  refine jP 0 I (A1 I Bq) I hp<|jT 1 I (A6 I BF) I hp AQ ?_
  refine jP 2 I (A1 I CH) I hp<|jT 3 I (A6 I BF) I hp AQ ?_
  refine jP 4 I (A1 I Cy) I hp<|jT 5 I (A6 I BF) I hp AQ ?_
  refine jP 6 I (A1 I Bq) I hp<|jO 7<|Cg I (Ar I I Fw) I I I ?_
  rintro _ _ rfl
  refine⟨(fun _=>AQ),?_⟩
  refine jP 8 I (A1 I CH) I hp<|jO 9<|Cg I (Ar I I Fw) I I I ?_
  rintro _ _ rfl
  refine⟨(fun _=>AQ),?_⟩
  refine jP 10 I (A1 I Cy) I hp<|jO 11<|Cg I (Ar I I Fw) I I I ?_
  rintro _ _ rfl
  refine⟨(fun _=>AQ),?_⟩
  refine jD<|A5 K25<|AD<|A2 (A1 I Bq) I<|A2 (A6 I BF) I ?_
  refine AB (AE aW I (hs:=Kn)) I I I ?_
  rintro _ _ ⟨⟨⟩,rfl,hA⟩
  simp only [ca] at hA
  subst hA
  refine wM I I<|Ae 54 I (fun hg26=>?_) (fun hg26=>?_)
  ·try simp only [dz] at hg26
   refine A2 (A1 I CH) I<|A2 (A6 I BF) I ?_
   first|refine As (Bl (j:=0) rfl rfl) rfl rfl rfl ?_|refine As (Dm rfl rfl) rfl rfl rfl ?_
   refine A2 (AC I I) I<|wM I I<|Ae 59 I (fun hg27=>?_) (fun hg27=>?_)
   ·try simp only [dz] at hg27
    refine A2 (A1 I CH) I<|A2 (A6 I BF) I ?_
    first|refine As (D5 (j:=33554432) rfl rfl) rfl rfl rfl ?_|refine As (GI rfl rfl) rfl rfl rfl ?_
    refine A2 (AC I I) I<|wM I I<|Ae 64 I (fun hg28=>?_) (fun hg28=>?_)
    ·try simp only [dz] at hg28
     refine A2 (A1 I Cy) I<|A2 (A6 I BF) I ?_
     first|refine As (Bl (j:=1) rfl rfl) rfl rfl rfl ?_|refine As (Dm rfl rfl) rfl rfl rfl ?_
     refine A2 (AC I I) I<|wM I I<|Ae 69 I (fun hg29=>?_) (fun hg29=>?_)
     ·try simp only [dz] at hg29
      refine A2 (A1 I Cy) I<|A2 (A6 I BF) I ?_
      first|refine As (D5 (j:=131072) rfl rfl) rfl rfl rfl ?_|refine As (GI rfl rfl) rfl rfl rfl ?_
      refine A2 (AC I I) I<|wA I I<|AW<|A5 K4<|A4 fun _ K30=>wM I I<|wM I I<|Ae 91 I (fun hg31=>?_) (fun hg31=>?_)
      ·try simp only [dz] at hg31
       refine A2 (A1 I Bq) I<|A2 (A6 I BF) I ?_
       refine A2 (A1 I Bq) I<|A2 (A6 I BF) I ?_
       first|refine As (Ab rfl rfl) rfl rfl rfl ?_|refine As (CW rfl rfl) rfl rfl rfl ?_
       refine A2 (AC I I) I<|wM I I<|Ae 98 I (fun hg32=>?_) (fun hg32=>?_)
       ·try simp only [dz] at hg32
        refine A2 (A1 I CH) I<|A2 (A6 I BF) I ?_
        refine A2 (A1 I CH) I<|A2 (A6 I BF) I ?_
        first|refine As (Ab rfl rfl) rfl rfl rfl ?_|refine As (CW rfl rfl) rfl rfl rfl ?_
        refine A2 (AC I I) I<|wM I I<|Ae 105 I (fun hg33=>?_) (fun hg33=>?_)
        ·try simp only [dz] at hg33
         refine A2 (A1 I Cy) I<|A2 (A6 I BF) I ?_
         refine A2 (A1 I Cy) I<|A2 (A6 I BF) I ?_
         first|refine As (Ab rfl rfl) rfl rfl rfl ?_|refine As (CW rfl rfl) rfl rfl rfl ?_
         refine A2 (AC I I) I<|wM I I<|Ae 112 I (fun hg34=>?_) (fun hg34=>?_)
         ·try simp only [dz] at hg34
          refine A2 (A1 I BS) I<|A2 (AI I EE) I ?_
          refine A2 (A1 I BS) I<|A2 (AI I EE) I ?_
          refine A2 (Na I I JR (EqL.sc BX I I (DN MU _ _) (EqL.sc BF I I (DN Vg _ _) EqL.nil))) I ?_
          refine A2 (AC I I) I<|wM I I<|Ae 119 I (fun hg35=>?_) (fun hg35=>?_)
          ·try simp only [dz] at hg35
           refine A2 (A1 I CG) I<|A2 (A6 I Bg) I ?_
           first|refine As (BA rfl rfl BQ) rfl rfl rfl ?_|refine As (Al rfl rfl BQ) rfl rfl rfl ?_
           refine A2 (A1 I CG) I<|A2 (A6 I Bg) I ?_
           first|refine As (BA rfl rfl BQ) rfl rfl rfl ?_|refine As (Al rfl rfl BQ) rfl rfl rfl ?_
           refine A2 (Ab I I) I<|A2 (AC I I) I<|wA I I<|A3 K30<|AK ?_
           exact hret.goE () (BR rfl rfl) D7
          try simp only [dz] at hg35
          refine wK I<|wK I<|wK I<|wK I<|wK I<|wK I<|wK I<|A2 (A8 I I) I<|wA I I<|A3 K30<|AK ?_
          exact hret.goE () (BR rfl rfl) D7
         try simp only [dz] at hg34
         refine wK I<|wK I<|wK I<|wK I<|wK I<|A2 (A8 I I) I<|wM I I<|wK I<|wK I<|wK I<|wK I<|wK I<|wK I<|wK I<|A2 (A8 I I) I ?_
         refine wA I I<|A3 K30<|AK ?_
         exact hret.goE () (BR rfl rfl) D7
        try simp only [dz] at hg33
        refine wK I<|wK I<|wK I<|wK I<|wK I<|A2 (A8 I I) I<|wM I I<|wK I<|wK I<|wK I<|wK I<|wK I<|A2 (A8 I I) I<|wM I I<|wK I ?_
        refine wK I<|wK I<|wK I<|wK I<|wK I<|wK I<|A2 (A8 I I) I<|wA I I<|A3 K30<|AK ?_
        exact hret.goE () (BR rfl rfl) D7
       try simp only [dz] at hg32
       refine wK I<|wK I<|wK I<|wK I<|wK I<|A2 (A8 I I) I<|wM I I<|wK I<|wK I<|wK I<|wK I<|wK I<|A2 (A8 I I) I<|wM I I<|wK I ?_
       refine wK I<|wK I<|wK I<|wK I<|A2 (A8 I I) I<|wM I I<|wK I<|wK I<|wK I<|wK I<|wK I<|wK I<|wK I<|A2 (A8 I I) I<|wA I I ?_
       refine A3 K30<|AK ?_
       exact hret.goE () (BR rfl rfl) D7
      try simp only [dz] at hg31
      refine wK I<|wK I<|wK I<|wK I<|wK I<|A2 (A8 I I) I<|wM I I<|wK I<|wK I<|wK I<|wK I<|wK I<|A2 (A8 I I) I<|wM I I<|wK I ?_
      refine wK I<|wK I<|wK I<|wK I<|A2 (A8 I I) I<|wM I I<|wK I<|wK I<|wK I<|wK I<|wK I<|A2 (A8 I I) I<|wM I I<|wK I<|wK I ?_
      refine wK I<|wK I<|wK I<|wK I<|wK I<|A2 (A8 I I) I<|wA I I<|A3 K30<|AK ?_
      exact hret.goE () (BR rfl rfl) D7
     try simp only [dz] at hg29
     refine wK I<|wK I<|wK I<|A2 (A8 I I) I<|wA I I<|AW<|A5 K4<|A4 fun _ K36=>wM I I<|wM I I<|wK I<|wK I<|wK I<|wK I<|wK I ?_
     refine A2 (A8 I I) I<|wM I I<|wK I<|wK I<|wK I<|wK I<|wK I<|A2 (A8 I I) I<|wM I I<|wK I<|wK I<|wK I<|wK I<|wK I<|A2 (A8 I I) I ?_
     refine wM I I<|wK I<|wK I<|wK I<|wK I<|wK I<|A2 (A8 I I) I<|wM I I<|wK I<|wK I<|wK I<|wK I<|wK I<|wK I<|wK I ?_
     refine A2 (A8 I I) I<|wA I I<|A3 K36<|AK ?_
     exact hret.goE () (BR rfl rfl) D7
    try simp only [dz] at hg28
    refine wK I<|wK I<|wK I<|A2 (A8 I I) I<|wM I I<|wK I<|wK I<|wK I<|A2 (A8 I I) I<|wA I I<|AW<|A5 K4<|A4 fun _ K37=>wM I I<|wM I I ?_
    refine wK I<|wK I<|wK I<|wK I<|wK I<|A2 (A8 I I) I<|wM I I<|wK I<|wK I<|wK I<|wK I<|wK I<|A2 (A8 I I) I<|wM I I<|wK I ?_
    refine wK I<|wK I<|wK I<|wK I<|A2 (A8 I I) I<|wM I I<|wK I<|wK I<|wK I<|wK I<|wK I<|A2 (A8 I I) I<|wM I I<|wK I<|wK I ?_
    refine wK I<|wK I<|wK I<|wK I<|wK I<|A2 (A8 I I) I<|wA I I<|A3 K37<|AK ?_
    exact hret.goE () (BR rfl rfl) D7
   try simp only [dz] at hg27
   refine wK I<|wK I<|wK I<|A2 (A8 I I) I<|wM I I<|wK I<|wK I<|wK I<|A2 (A8 I I) I<|wM I I<|wK I<|wK I<|wK I<|A2 (A8 I I) I<|wA I I ?_
   refine AW<|A5 K4<|A4 fun _ K38=>wM I I<|wM I I<|wK I<|wK I<|wK I<|wK I<|wK I<|A2 (A8 I I) I<|wM I I<|wK I<|wK I<|wK I ?_
   refine wK I<|wK I<|A2 (A8 I I) I<|wM I I<|wK I<|wK I<|wK I<|wK I<|wK I<|A2 (A8 I I) I<|wM I I<|wK I<|wK I<|wK I<|wK I ?_
   refine wK I<|A2 (A8 I I) I<|wM I I<|wK I<|wK I<|wK I<|wK I<|wK I<|wK I<|wK I<|A2 (A8 I I) I<|wA I I<|A3 K38<|AK ?_
   exact hret.goE () (BR rfl rfl) D7
  try simp only [dz] at hg26
  refine wK I<|wK I<|wK I<|A2 (A8 I I) I<|wM I I<|wK I<|wK I<|wK I<|A2 (A8 I I) I<|wM I I<|wK I<|wK I<|wK I<|A2 (A8 I I) I<|wM I I ?_
  refine wK I<|wK I<|wK I<|A2 (A8 I I) I<|wA I I<|AW<|A5 K4<|A4 fun _ K39=>wM I I<|wM I I<|wK I<|wK I<|wK I<|wK I<|wK I ?_
  refine A2 (A8 I I) I<|wM I I<|wK I<|wK I<|wK I<|wK I<|wK I<|A2 (A8 I I) I<|wM I I<|wK I<|wK I<|wK I<|wK I<|wK I<|A2 (A8 I I) I ?_
  refine wM I I<|wK I<|wK I<|wK I<|wK I<|wK I<|A2 (A8 I I) I<|wM I I<|wK I<|wK I<|wK I<|wK I<|wK I<|wK I<|wK I ?_
  refine A2 (A8 I I) I<|wA I I<|A3 K39<|AK ?_
  exact hret.goE () (BR rfl rfl) D7
 try simp only [dz] at hc2
 refine A4 fun _ K40=>?_
 first|refine As (Ab (j:=4) rfl rfl) rfl rfl rfl ?_|refine As (CW rfl rfl) rfl rfl rfl ?_
 refine wA I I<|A3 K40<|AH I (fun hc3=>?_) (fun hc3=>?_)
 ·try simp only [dz] at hc3
  refine A4 fun _ K41=>A2 (A1 I BS) I<|A2 (AI I EE) I ?_
  refine A2 (A1 I BS) I<|AX (AV I I DD) I I ?_
  rintro _ _ rfl
  refine A3 K41<|AD<|A2 (A1 I BS) I<|A2 (A1 I Bm) I<|A2 (A6 I BF) I ?_
  refine AB (AE aX I (hs:=MO)) I I I ?_
  rintro _ _ ⟨⟨⟩,rfl,hA⟩
  simp only [ca] at hA
  subst hA
  refine wA I I<|AW<|A5 K4<|A4 fun _ K42=>wM I I<|wM I I<|Ae 91 I (fun hg43=>?_) (fun hg43=>?_)
  ·try simp only [dz] at hg43
   refine A2 (A1 I Bq) I<|A2 (A6 I BF) I ?_
   refine A2 (A1 I Bq) I<|A2 (A6 I BF) I ?_
   first|refine As (Ab rfl rfl) rfl rfl rfl ?_|refine As (CW rfl rfl) rfl rfl rfl ?_
   refine A2 (AC I I) I<|wM I I<|Ae 98 I (fun hg44=>?_) (fun hg44=>?_)
   ·try simp only [dz] at hg44
    refine A2 (A1 I CH) I<|A2 (A6 I BF) I ?_
    refine A2 (A1 I CH) I<|A2 (A6 I BF) I ?_
    first|refine As (Ab rfl rfl) rfl rfl rfl ?_|refine As (CW rfl rfl) rfl rfl rfl ?_
    refine A2 (AC I I) I<|wM I I<|Ae 105 I (fun hg45=>?_) (fun hg45=>?_)
    ·try simp only [dz] at hg45
     refine A2 (A1 I Cy) I<|A2 (A6 I BF) I ?_
     refine A2 (A1 I Cy) I<|A2 (A6 I BF) I ?_
     first|refine As (Ab rfl rfl) rfl rfl rfl ?_|refine As (CW rfl rfl) rfl rfl rfl ?_
     refine A2 (AC I I) I<|wM I I<|Ae 112 I (fun hg46=>?_) (fun hg46=>?_)
     ·try simp only [dz] at hg46
      refine A2 (A1 I BS) I<|A2 (AI I EE) I ?_
      refine A2 (A1 I BS) I<|A2 (AI I EE) I ?_
      refine A2 (Na I I JR (EqL.sc BX I I (DN MU _ _) (EqL.sc BF I I (DN Vg _ _) EqL.nil))) I ?_
      refine A2 (AC I I) I<|wM I I<|Ae 119 I (fun hg47=>?_) (fun hg47=>?_)
      ·try simp only [dz] at hg47
       refine A2 (A1 I CG) I<|A2 (A6 I Bg) I ?_
       first|refine As (BA rfl rfl BQ) rfl rfl rfl ?_|refine As (Al rfl rfl BQ) rfl rfl rfl ?_
       refine A2 (A1 I CG) I<|A2 (A6 I Bg) I ?_
       first|refine As (BA rfl rfl BQ) rfl rfl rfl ?_|refine As (Al rfl rfl BQ) rfl rfl rfl ?_
       refine A2 (Ab I I) I<|A2 (AC I I) I<|wA I I<|A3 K42<|AK ?_
       exact hret.goE () (BR rfl rfl) D7
      try simp only [dz] at hg47
      refine wK I<|wK I<|wK I<|wK I<|wK I<|wK I<|wK I<|A2 (A8 I I) I<|wA I I<|A3 K42<|AK ?_
      exact hret.goE () (BR rfl rfl) D7
     try simp only [dz] at hg46
     refine wK I<|wK I<|wK I<|wK I<|wK I<|A2 (A8 I I) I<|wM I I<|wK I<|wK I<|wK I<|wK I<|wK I<|wK I<|wK I<|A2 (A8 I I) I ?_
     refine wA I I<|A3 K42<|AK ?_
     exact hret.goE () (BR rfl rfl) D7
    try simp only [dz] at hg45
    refine wK I<|wK I<|wK I<|wK I<|wK I<|A2 (A8 I I) I<|wM I I<|wK I<|wK I<|wK I<|wK I<|wK I<|A2 (A8 I I) I<|wM I I<|wK I ?_
    refine wK I<|wK I<|wK I<|wK I<|wK I<|wK I<|A2 (A8 I I) I<|wA I I<|A3 K42<|AK ?_
    exact hret.goE () (BR rfl rfl) D7
   try simp only [dz] at hg44
   refine wK I<|wK I<|wK I<|wK I<|wK I<|A2 (A8 I I) I<|wM I I<|wK I<|wK I<|wK I<|wK I<|wK I<|A2 (A8 I I) I<|wM I I<|wK I ?_
   refine wK I<|wK I<|wK I<|wK I<|A2 (A8 I I) I<|wM I I<|wK I<|wK I<|wK I<|wK I<|wK I<|wK I<|wK I<|A2 (A8 I I) I<|wA I I ?_
   refine A3 K42<|AK ?_
   exact hret.goE () (BR rfl rfl) D7
  try simp only [dz] at hg43
  refine wK I<|wK I<|wK I<|wK I<|wK I<|A2 (A8 I I) I<|wM I I<|wK I<|wK I<|wK I<|wK I<|wK I<|A2 (A8 I I) I<|wM I I<|wK I ?_
  refine wK I<|wK I<|wK I<|wK I<|A2 (A8 I I) I<|wM I I<|wK I<|wK I<|wK I<|wK I<|wK I<|A2 (A8 I I) I<|wM I I<|wK I<|wK I ?_
  refine wK I<|wK I<|wK I<|wK I<|wK I<|A2 (A8 I I) I<|wA I I<|A3 K42<|AK ?_
  exact hret.goE () (BR rfl rfl) D7
 try simp only [dz] at hc3
 refine A4 fun _ K48=>?_
 first|refine As (Ab (j:=5) rfl rfl) rfl rfl rfl ?_|refine As (CW rfl rfl) rfl rfl rfl ?_
 refine wA I I<|A3 K48<|AH I (fun hc4=>?_) (fun hc4=>?_)
 ·try simp only [dz] at hc4
  refine AD<|A2 (A1 I BS) I<|A2 (A1 I Cf) I<|A2 (A6 I BX) I ?_
  refine A2 (A1 I BS) I<|A2 (A1 I Cf) I<|AX (Ar I I BI) I I ?_
  rintro _ _ rfl
  refine AW<|A5 K4<|A4 fun _ K49=>wM I I<|wM I I<|A2 (A1 I Bq) I<|A2 (A6 I BF) I ?_
  refine A2 (A1 I Bq) I<|A2 (A6 I BF) I ?_
  first|refine As (Ab rfl rfl) rfl rfl rfl ?_|refine As (CW rfl rfl) rfl rfl rfl ?_
  refine A2 (AC I I) I<|wM I I<|Ae 98 I (fun hg50=>?_) (fun hg50=>?_)
  ·try simp only [dz] at hg50
   refine A2 (A1 I CH) I<|A2 (A6 I BF) I ?_
   refine A2 (A1 I CH) I<|A2 (A6 I BF) I ?_
   first|refine As (Ab rfl rfl) rfl rfl rfl ?_|refine As (CW rfl rfl) rfl rfl rfl ?_
   refine A2 (AC I I) I<|wM I I<|Ae 105 I (fun hg51=>?_) (fun hg51=>?_)
   ·try simp only [dz] at hg51
    refine A2 (A1 I Cy) I<|A2 (A6 I BF) I ?_
    refine A2 (A1 I Cy) I<|A2 (A6 I BF) I ?_
    first|refine As (Ab rfl rfl) rfl rfl rfl ?_|refine As (CW rfl rfl) rfl rfl rfl ?_
    refine A2 (AC I I) I<|wM I I<|Ae 112 I (fun hg52=>?_) (fun hg52=>?_)
    ·try simp only [dz] at hg52
     refine A2 (A1 I BS) I<|A2 (AI I EE) I ?_
     refine A2 (A1 I BS) I<|A2 (AI I EE) I ?_
     refine A2 (Na I I JR (EqL.sc BX I I (DN MU _ _) (EqL.sc BF I I (DN Vg _ _) EqL.nil))) I ?_
     refine A2 (AC I I) I<|wM I I<|Ae 119 I (fun hg53=>?_) (fun hg53=>?_)
     ·try simp only [dz] at hg53
      refine A2 (A1 I CG) I<|A2 (A6 I Bg) I ?_
      first|refine As (BA rfl rfl BQ) rfl rfl rfl ?_|refine As (Al rfl rfl BQ) rfl rfl rfl ?_
      refine A2 (A1 I CG) I<|A2 (A6 I Bg) I ?_
      first|refine As (BA rfl rfl BQ) rfl rfl rfl ?_|refine As (Al rfl rfl BQ) rfl rfl rfl ?_
      refine A2 (Ab I I) I<|A2 (AC I I) I<|wA I I<|A3 K49<|AK ?_
      exact hret.goE () (BR rfl rfl) D7
     try simp only [dz] at hg53
     refine wK I<|wK I<|wK I<|wK I<|wK I<|wK I<|wK I<|A2 (A8 I I) I<|wA I I<|A3 K49<|AK ?_
     exact hret.goE () (BR rfl rfl) D7
    try simp only [dz] at hg52
    refine wK I<|wK I<|wK I<|wK I<|wK I<|A2 (A8 I I) I<|wM I I<|wK I<|wK I<|wK I<|wK I<|wK I<|wK I<|wK I<|A2 (A8 I I) I ?_
    refine wA I I<|A3 K49<|AK ?_
    exact hret.goE () (BR rfl rfl) D7
   try simp only [dz] at hg51
   refine wK I<|wK I<|wK I<|wK I<|wK I<|A2 (A8 I I) I<|wM I I<|wK I<|wK I<|wK I<|wK I<|wK I<|A2 (A8 I I) I<|wM I I<|wK I ?_
   refine wK I<|wK I<|wK I<|wK I<|wK I<|wK I<|A2 (A8 I I) I<|wA I I<|A3 K49<|AK ?_
   exact hret.goE () (BR rfl rfl) D7
  try simp only [dz] at hg50
  refine wK I<|wK I<|wK I<|wK I<|wK I<|A2 (A8 I I) I<|wM I I<|wK I<|wK I<|wK I<|wK I<|wK I<|A2 (A8 I I) I<|wM I I<|wK I ?_
  refine wK I<|wK I<|wK I<|wK I<|A2 (A8 I I) I<|wM I I<|wK I<|wK I<|wK I<|wK I<|wK I<|wK I<|wK I<|A2 (A8 I I) I<|wA I I ?_
  refine A3 K49<|AK ?_
  exact hret.goE () (BR rfl rfl) D7
 try simp only [dz] at hc4
 refine A4 fun _ K54=>wA I I<|A3 K54<|AK ?_
 exact hret.goE () (BR rfl rfl) D7
end Go.Proofs.YtoakfknnaiapiaaGreat
namespace Go.Proofs.YtoakfknnaiapiaaGreat
open Go.RowKit Go.SL Go.ShM Go.SvM
set_option maxHeartbeats 1000000
set_option maxRecDepth 20000
set_option linter.all false

theorem Qp(l:List B8)(h:l.length=16): ∃a0 a1 a2 a3 a4 a5 a6 a7 a8 a9 a10 a11 a12 a13 a14 a15:B8,l= [a0,a1,a2,a3,a4,a5,a6,a7,a8,a9,a10,a11,a12,a13,a14,a15]:=by
 obtain⟨a0,l0,rfl,h0⟩:=JI h
 obtain⟨a1,l1,rfl,h1⟩:=JI h0
 obtain⟨a2,l2,rfl,h2⟩:=JI h1
 obtain⟨a3,l3,rfl,h3⟩:=JI h2
 obtain⟨a4,l4,rfl,h4⟩:=JI h3
 obtain⟨a5,l5,rfl,h5⟩:=JI h4
 obtain⟨a6,l6,rfl,h6⟩:=JI h5
 obtain⟨a7,l7,rfl,h7⟩:=JI h6
 obtain⟨a8,l8,rfl,h8⟩:=JI h7
 obtain⟨a9,l9,rfl,h9⟩:=JI h8
 obtain⟨a10,l10,rfl,h10⟩:=JI h9
 obtain⟨a11,l11,rfl,h11⟩:=JI h10
 obtain⟨a12,l12,rfl,h12⟩:=JI h11
 obtain⟨a13,l13,rfl,h13⟩:=JI h12
 obtain⟨a14,l14,rfl,h14⟩:=JI h13
 obtain⟨a15,l15,rfl,h15⟩:=JI h14
 obtain rfl:l15= []:=List.eq_nil_of_length_eq_zero h15
 exact⟨a0,a1,a2,a3,a4,a5,a6,a7,a8,a9,a10,a11,a12,a13,a14,a15,rfl⟩
theorem J3{r:Rq} :Ct Tryz.prog 67 [.agg (CP r).toArray] [] (fun _:Unit=>.bool (IE r)) (fun _=> []):=by
 obtain⟨k,⟨l,hl⟩,n,f,c,wh,un,b⟩:=r
 obtain⟨a0,a1,a2,a3,a4,a5,a6,a7,a8,a9,a10,a11,a12,a13,a14,a15,rfl⟩:=Qp l hl
 exact ZX (k:=(k.toNat:Int)) (n:=n) (f:=f) (c:=c) (wh:=(wh.toNat:Int)) (un:=un) (len:=b.l.length)
end Go.Proofs.YtoakfknnaiapiaaGreat
/-
 A word array handed back with a second result;a whole array as a slice. (Conditions:none;generic over the program.)
-/
namespace Go.SL
open Go.RowKit
section
variable {P : Program} {n : Nat} {L : List (Nat × Value)} {A : List Ao} {d : Option Tmp} {ty : TypeId} {pos' : String} {af : Array Edge} {g : Option (Nat × Bool)} {t : TypeId} {x y : Operand} {k : IntKind} {w : Nat}
theorem AL{o:Oper}{u v:Value}(h:Rd P n o L A u)(e:u=v):Rd P n o L A v:=e ▸ h
theorem NV{et:TypeId}{b len:Nat}(hx:ev L x=some (.pointer (some ⟨b,0,none⟩)))(hu:P.underlying t=some (.array len et))(hz:sz P et=some 1)(h0:0<len:=by omega):
  Rd P n ⟨d,.slice t x none none none,ty,pos',af,g⟩ L A (sl (some b) len len):=fun a W hf hs=>by
 simp [execOp,hf.eval hx,Instr.sliceAt,Instr.sureAddr,BJ hu,Instr.sliceBounds,Instr.sliceBound,CY hz,EL,sl,Addr.add]
end
end Go.SL
/-
 A server's leases laid,its shares found,one more share:in plain words. (Conditions:none;no program in sight.)
-/
set_option maxRecDepth 20000
namespace Go.SvM
open Go.SL Go.ShM Go.RowKit
theorem KP{w:Bv}{ls:List Ls} :(E8 w ls).isSome=Bi w ls:=by
 rw [Bool.eq_iff_iff,Qz,Qx];exact Iff.rfl
theorem X4{w:Bv}{ls:List Ls} :((E8 w ls).map DY).getD (.int .i64 0)= .int .i64 ((E8 w ls).getD 0):=by
 cases E8 w ls <;>rfl
theorem Hu{κ β:Type}[DecidableEq κ]{k:κ}{x:κ × β}{l:List (κ × β)}(h:x.1≠k):E8 k (x::l)=E8 k l:=by
 unfold E8;rw [List.find?_cons_of_neg (by simpa using h)]
theorem Hv{κ β:Type}[DecidableEq κ]{k:κ}{x:κ × β}{l:List (κ × β)}(h:x.1=k):E8 k (x::l)=some x.2:=by
 unfold E8;rw [List.find?_cons_of_pos (by simpa using h)];rfl
theorem PX{κ β:Type}[DecidableEq κ]{k:κ}{x:κ × β}{l:List (κ × β)}(h:x.1≠k):CC k (x::l)=x::CC k l:=by
 unfold CC;rw [List.filter_cons_of_pos (by simpa using h)]
theorem PY{κ β:Type}[DecidableEq κ]{k:κ}{x:κ × β}{l:List (κ × β)}(h:x.1=k):CC k (x::l)=CC k l:=by
 unfold CC;rw [List.filter_cons_of_neg (by simpa using h)]
theorem O6{w:Bv}{u:Int}(hu:0<=u): ∀ {ls:List Ls},SrtW ls ->(EQ w (max ((E8 w ls).getD 0) u) ls).Perm (Bc w u ls)
 | [],_=>by simp [EQ,CC,E8,Bc,Int.max_eq_right hu]
 |x::r,h=>by
  have h':=List.pairwise_cons.1 h
  unfold Bc
  by_cases e:x.1=w
  ·rw [if_pos e,Hv e]
   unfold EQ
   rw [PY e,FW (fun hk=>by
    obtain⟨y,hy,hk⟩:=List.mem_map.1 hk
    exact MM (h'.1 y hy) (e.trans hk.symm))]
   exact .refl _
  ·rw [if_neg e]
   split
   ·rename_i hlt
    have hno:w ∉ C5 (x::r):=fun hk=>by
     obtain⟨y,hy,hk2⟩:=List.mem_map.1 hk
     rcases List.mem_cons.1 hy with hy|hy
     ·rw [hy] at hk2;exact e hk2
     ·have:=h'.1 y hy;unfold Lj at this;rw [hk2] at this;omega
    rw [OD hno]
    unfold EQ
    rw [FW hno]
    simp [Int.max_eq_right hu]
   ·rw [Hu e]
    unfold EQ
    rw [PX e]
    exact(List.Perm.swap _ _ _).trans ((O6 hu h'.2).cons x)
theorem Qj{w:Bv}{u:Int} : ∀ {ls:List Ls},SrtW ls ->SrtW (Bc w u ls)/\ ∀y∈Bc w u ls,y.1=w\/y∈ls
 | [],_=>by simp [Bc,SrtW]
 |x::r,h=>by
  have h':=List.pairwise_cons.1 h
  obtain⟨i1,i2⟩:=Qj (w:=w) (u:=u) h'.2
  unfold Bc
  by_cases e:x.1=w
  ·rw [if_pos e]
   refine⟨List.pairwise_cons.2 ⟨fun y hy=>?_,h'.2⟩,fun y hy=>?_⟩
   ·have:=h'.1 y hy;unfold Lj at *;rw [e] at this;exact this
   ·rcases List.mem_cons.1 hy with rfl|hy
    ·exact .inl rfl
    ·exact .inr (List.mem_cons_of_mem _ hy)
  ·rw [if_neg e]
   split
   ·rename_i hlt
    refine⟨List.pairwise_cons.2 ⟨fun y hy=>?_,h⟩,fun y hy=>?_⟩
    ·rcases List.mem_cons.1 hy with rfl|hy
     ·exact hlt
     ·have:=h'.1 y hy;unfold Lj at *;simp only;omega
    ·rcases List.mem_cons.1 hy with rfl|hy
     ·exact .inl rfl
     ·exact .inr hy
   ·rename_i hlt
    refine⟨List.pairwise_cons.2 ⟨fun y hy=>?_,i1⟩,fun y hy=>?_⟩
    ·rcases i2 y hy with q|q
     ·have hne:x.1.toNat≠w.toNat:=fun q=>e (BitVec.eq_of_toNat_eq q)
      unfold Lj;rw [q];omega
     ·exact h'.1 y q
    ·rcases List.mem_cons.1 hy with rfl|hy
     ·exact .inr (by simp)
     ·rcases i2 y hy with q|q
      ·exact .inl q
      ·exact .inr (List.mem_cons_of_mem _ q)
def DV(k:Ky)(L:List En):Option En:=L.find? fun x=>decide (x.e.key=k)
theorem Sj{k:Ky}{L:List En}{x:En}(h:DV k L=some x):x.e.key=k/\ ∃A B,L=A++x::B:=by
 have h1:=List.mem_of_find?_eq_some h
 have h2:=List.find?_some h
 exact⟨by simpa using h2,List.append_of_mem h1⟩
theorem Sk{k:Ky}{L:List En}(h:DV k L=none):k ∉ C5 (L.map En.kp):=fun hk=>by
 rw [Lv,List.map_map] at hk
 obtain⟨x,hx,hk⟩:=List.mem_map.1 hk
 unfold DV at h
 rw [List.find?_eq_none] at h
 exact h x hx (by simpa using hk)
theorem fU{k:Ky}{L:List En} :E8 k (L.map En.kp)=(DV k L).map En.p:=by
 induction L with
 |nil=>rfl
 |cons x r ih=>
  unfold DV at*
  rw [List.map_cons]
  by_cases h:x.e.key=k
  ·rw [Hv (x:=x.kp) h,List.find?_cons_of_pos (by simpa using h)];rfl
  ·rw [Hu (x:=x.kp) h,List.find?_cons_of_neg (by simpa using h),ih]
def IF(e:Kp):List Kp ->List Kp
 | []=> [e]
 |x::r=>if Eh e.key x.key then e::x::r else x::IF e r
def Gy(e:En):List En ->List En
 | []=> [e]
 |x::r=>if Eh e.e.key x.e.key then e::x::r else x::Gy e r
theorem XQ(e:En): ∀L,(Gy e L).map En.e=IF e.e (L.map En.e)
 | []=>rfl
 |x::r=>by
  unfold Gy
  rw [List.map_cons,IF]
  split
  ·rfl
  ·rw [List.map_cons,XQ e r]
theorem FB(e:En): ∀L,(e::L).Perm (Gy e L)
 | []=>.refl _
 |x::r=>by
  unfold Gy
  split
  ·exact .refl _
  ·exact(List.Perm.swap _ _ _).trans ((FB e r).cons x)
theorem N7{e:Kp} : ∀ {l:List Kp} {y:Kp},y∈IF e l ->y=e\/y∈l
 | [],y,h=>by simpa [IF] using h
 |x::r,y,h=>by
  unfold IF at h
  split at h
  ·rcases List.mem_cons.1 h with q|q
   ·exact .inl q
   ·exact .inr q
  ·rcases List.mem_cons.1 h with q|q
   ·exact .inr (by simp [q])
   ·rcases N7 q with q|q
    ·exact .inl q
    ·exact .inr (by simp [q])
theorem Qr{e:Kp} : ∀ {l:List Kp},SrtK l ->e.key ∉ l.map Kp.key ->SrtK (IF e l)
 | [],_,_=>by simp [IF,SrtK]
 |x::r,h,hn=>by
  have h':=List.pairwise_cons.1 h
  unfold IF
  split
  ·rename_i hlt
   refine List.pairwise_cons.2 ⟨fun y hy=>?_,h⟩
   rcases List.mem_cons.1 hy with rfl|hy
   ·exact hlt
   ·exact HG hlt (h'.1 y hy)
  ·rename_i hlt
   have hxe:Eh x.key e.key:=by
    by_cases q:Eh x.key e.key
    ·exact q
    ·exact absurd (List.mem_map.2 ⟨x,by simp,(KL q hlt)⟩) hn
   refine List.pairwise_cons.2 ⟨fun y hy=>?_,Qr h'.2 (fun hm=>hn (by rw [List.map_cons];exact List.mem_cons_of_mem _ hm))⟩
   rcases N7 hy with rfl|hy
   ·exact hxe
   ·exact h'.1 y hy
def Gz(k:Ky)(f:List Ls ->List Ls)(l:List Kp):List Kp:=l.map fun e=>if e.key=k then e.with (f e.ls) else e
end Go.SvM
namespace Go.Proofs.YtoakfknnaiapiaaGreat
open Go.RowKit Go.SL Go.ShM Go.SvM
set_option maxHeartbeats 1000000
set_option maxRecDepth 20000
set_option linter.all false
theorem du:DF Tryz.prog 77=true:=by kernel_rfl
theorem cf86:DF Tryz.prog 86=true:=by kernel_rfl
theorem g4:DF Tryz.prog 114=true:=by kernel_rfl
theorem Bp:SG Tryz.prog 113=some ([.int .u8 0,.slice none 0 0,.slice none 0 0],[(0,1),(1,1),(2,1)]):=by kernel_rfl
theorem Ba:sz Tryz.prog 113=some 3:=by kernel_rfl
theorem EG:tk Tryz.prog 47=some (some 23):=by kernel_rfl
theorem Bn:tk Tryz.prog 113=some (some 3):=by kernel_rfl
theorem Ce:zr Tryz.prog 113=some [.int .u8 0,.slice none 0 0,.slice none 0 0]:=by kernel_rfl
theorem dC{x:En} :Ct Tryz.prog 86 [.pointer (some ⟨x.p,0,none⟩)] [cl x.p 102 [sl x.a x.e.b.length x.cap,.map (some x.m)],Aa x.a x.cap 1 5 (eU .u8 (w:=8)) x.e.b,Bs x.m Dn DY x.e.ls] (fun _:Unit=>.bool true) (fun _=> [cl x.p 102 [sl x.a x.e.b.length x.cap,.map (some x.m)],Aa x.a x.cap 1 5 (eU .u8 (w:=8)) x.e.b,Bs x.m Dn DY x.e.ls]):=by
 refine AY (n:=3) Tryz.func86 I I I fun F w0 Q hret hnorm hp=>?_
 change WC _ _ _ _ _ _ _ (_::_::_::F)
 refine A4 fun _ K1=>wA I I<|A3 K1<|A4 fun _ K2=>wA I I<|A3 K2<|AK ?_
 exact hret.go () (BR rfl rfl)

theorem XZ{x:En}{r:Rq}{b3:Nat} :Ct Tryz.prog 114 [.pointer (some ⟨x.p,0,none⟩),.pointer (some ⟨b3,0,none⟩)] [cl x.p 102 [sl x.a x.e.b.length x.cap,.map (some x.m)],Aa x.a x.cap 1 5 (eU .u8 (w:=8)) x.e.b,Bs x.m Dn DY x.e.ls,cl b3 47 (CP r)] (fun _:Unit=>.bool (Bi r.who x.e.ls)) (fun _=> [cl x.p 102 [sl x.a x.e.b.length x.cap,.map (some x.m)],Aa x.a x.cap 1 5 (eU .u8 (w:=8)) x.e.b,Bs x.m Dn DY x.e.ls,cl b3 47 (CP r)]):=by
 refine AY (n:=18) Tryz.func114 I I I fun F w0 Q hret hnorm hp=>?_
 change WC _ _ _ _ _ _ _ (_::_::_::_::F)
 refine A4 fun _ K1=>wA I I<|A3 K1<|A7 fun _ K2=>Am CE (fun _=>2) ?_
 refine jM 0 I I I hp<|jP 1 I (A9 I) I hp<|jP 2 I (A1 I E0) I hp<|jT 3 I (A6 I Fb (v:=.map (some x.m))) I hp AQ<|jP 4 I (A1 I BS) I hp<|jP 5 I (A1 I Cf) I hp<|jT 6 I (A6 I BX (v:=.int .u32 ((r.who.toNat:Nat):Int)) (hi:=Fu r)) I hp AQ<|jT 7 I (DT IT I I EW cQ) I hp AQ ?_
 refine jM 8 I I I hp<|jP 9 I (BE I) I hp<|jP 10 I (BN I) I hp<|jP 11 I (Ag I) I hp<|jP 12 I (Ag I) I hp<|jD<|A5 K2<|A4 fun _ K3=>wM I I<|wA I I<|A3 K3<|AK ?_
 exact hret.goE () (BR rfl rfl) (by rw [KP])

theorem Zt{b m:Nat}{room tick:Int}{L:List En}{r:Rq}(hs:SrtK (L.map En.e))(hn:L.length<=100000000):Ct Tryz.prog 68 [.pointer (some ⟨b,0,none⟩),.agg (CP r).toArray] [cl b 90 [.bool true,.int .i64 room,.int .i64 tick,.int .i64 (((Ap L):Nat):Int),.map (some m)],Bs m By Cc (L.map En.kp),star (Cb 102 5) L] (fun g:Option Nat × Nat=>.agg [.int .u8 1,sl g.1 (B9 r.ix (fun _=>true) (L.map En.e)).length g.2,.slice none 0 0].toArray) (fun g=> [cl b 90 [.bool true,.int .i64 room,.int .i64 tick,.int .i64 (((Ap L):Nat):Int),.map (some m)],Bs m By Cc (L.map En.kp),star (Cb 102 5) L,Aa g.1 g.2 1 3 eI (B9 r.ix (fun _=>true) (L.map En.e))]):=by
 refine AY (n:=10) Tryz.func68 I I I fun F w0 Q hret hnorm hp=>?_
 change WC _ _ _ _ _ _ _ (_::_::_::F)
 refine A4 fun _ K1=>AB (Ay (xs:=CP r) I I) I I I ?_
 rintro _ _ ⟨b3,rfl,rfl⟩
 refine AB (AZ Ce) I I I ?_
 rintro _ _ ⟨b4,rfl,rfl⟩
 refine A3 K1<|A4 fun _ K2=>wM I I<|A2 (A1 I CU) I<|A2 (AI (vs:=r.ix.l.flatMap (eU .u8)) I Cv (hl:=by rw [B5];omega) (hi:=Ci r)) I ?_
 refine YV ?_
 refine AB (AE du I (hs:=MP (b:=b) (m:=m) (room:=room) (tick:=tick) (L:=L) (ix:=r.ix) (g:=86) (cb:= []) (X:=F7 []) (hb:=fun _=>true) cf86 (fun x=>(dC (x:=x)).frame [F7 []]) hs hn)) I I I ?_
 rintro _ _ ⟨⟨a8,cap8⟩,rfl,hA⟩
 simp only [ca] at hA
 subst hA
 refine A2 (Ah Bp I) I<|AX (AV (ys:= [.int .u8 1,sl a8 (B9 r.ix (fun _=>true) (L.map En.e)).length cap8,.slice none 0 0]) I I Ba (h1:=by simp [BD,Value.cells,Value.oneCell',sl]) (hr:=I)) I I ?_
 rintro _ _ rfl
 refine A3 K2<|AK ?_
 exact hret.go (a8,cap8) (Fl rfl rfl Bn)

theorem Te{b m:Nat}{room tick:Int}{L:List En}{r:Rq}(hs:SrtK (L.map En.e))(hn:L.length<=100000000):Ct Tryz.prog 89 [.pointer (some ⟨b,0,none⟩),.agg (CP r).toArray] [cl b 90 [.bool true,.int .i64 room,.int .i64 tick,.int .i64 (((Ap L):Nat):Int),.map (some m)],Bs m By Cc (L.map En.kp),star (Cb 102 5) L] (fun g:Option Nat × Nat=>sl g.1 (B9 r.ix (fun e=>Bi r.who e.ls) (L.map En.e)).length g.2) (fun g=> [cl b 90 [.bool true,.int .i64 room,.int .i64 tick,.int .i64 (((Ap L):Nat):Int),.map (some m)],Bs m By Cc (L.map En.kp),star (Cb 102 5) L,Aa g.1 g.2 1 3 eI (B9 r.ix (fun e=>Bi r.who e.ls) (L.map En.e))]):=by
 refine AY (n:=10) Tryz.func89 I I I fun F w0 Q hret hnorm hp=>?_
 change WC _ _ _ _ _ _ _ (_::_::_::F)
 refine A4 fun _ K1=>AB (Ay (xs:=CP r) I I) I I I ?_
 rintro _ _ ⟨b3,rfl,rfl⟩
 refine A2 (Ag (v:=sl none 0 0) I) I<|A3 K1<|A4 fun _ K2=>wM I I<|A2 (A1 I CU) I<|A2 (AI (vs:=r.ix.l.flatMap (eU .u8)) I Cv (hl:=by rw [B5];omega) (hi:=Ci r)) I ?_
 refine A2 (Cq I I) I ?_
 refine AB (AE du I (hs:=MP (b:=b) (m:=m) (room:=room) (tick:=tick) (L:=L) (ix:=r.ix) (g:=114) (cb:= [.pointer (some ⟨b3,0,none⟩)]) (X:=cl b3 47 (CP r)) (hb:=fun e=>Bi r.who e.ls) g4 (fun x=>XZ (x:=x) (r:=r) (b3:=b3)) hs hn)) I I I ?_
 rintro _ _ ⟨⟨a8,cap8⟩,rfl,hA⟩
 simp only [ca] at hA
 subst hA
 refine wA I I<|A3 K2<|AK ?_
 exact hret.go (a8,cap8) (BR rfl rfl)

theorem P4{p mm:Nat}{v:Value}{w:Bv}{u:Int}{ls:List Ls}(hs:SrtW ls)(hu:0<=u):Ct Tryz.prog 88 [.pointer (some ⟨p,0,none⟩),.agg [.int .u32 (w.toNat:Int),.int .i64 u].toArray] [cl p 102 [v,.map (some mm)],Bs mm Dn DY ls] (fun _:Unit=>.tuple #[]) (fun _=> [cl p 102 [v,.map (some mm)],Bs mm Dn DY (Bc w u ls)]):=by
 refine AY (n:=20) Tryz.func88 I I I fun F w0 Q hret hnorm hp=>?_
 change WC _ _ _ _ _ _ _ (_::_::F)
 refine A4 fun _ K1=>AB (Ay (xs:= [.int .u32 (w.toNat:Int),.int .i64 u]) I I) I I I ?_
 rintro _ _ ⟨b3,rfl,rfl⟩
 refine A3 K1<|Am CE (jz [16] 17) ?_
 refine jM 0 I I I hp<|jP 1 I (A9 I) I hp<|jP 2 I (A1 I E0) I hp<|jT 3 I (A6 I Fb (v:=.map (some mm))) I hp AQ<|jP 4 I (A1 I Cf) I hp<|jT 5 I (A6 I BX (v:=.int .u32 ((w.toNat:Nat):Int))) I hp AQ<|jM 6 I I I hp<|jP 7 I (A9 I) I hp<|jP 8 I (A1 I E0) I hp<|jT 9 I (A6 I Fb (v:=.map (some mm))) I hp AQ<|jP 10 I (A1 I Cf) I hp<|jT 11 I (A6 I BX (v:=.int .u32 ((w.toNat:Nat):Int))) I hp AQ<|jT 12 I (AL (v:=.int .i64 ((E8 w ls).getD 0)) (EO IT I I EW cQ) X4) I hp AQ<|jP 13 I (A1 I Bm) I hp<|jT 14 I (A6 I BF (v:=.int .i64 u)) I hp AQ ?_
 refine jT 15 I (eW I I) I hp AQ ?_
 refine jO 16<|EN I (F5 (vf:=DY) (max ((E8 w ls).getD 0) u) IT I I I EW) I ?_
 rintro _ _ rfl
 refine jD<|HJ (Bs mm Dn DY (EQ w (max ((E8 w ls).getD 0) u) ls)) (Bs mm Dn DY (Bc w u ls)) (EH (O6 hu hs)) ?_
 exact hnorm.go () (Ke rfl)
end Go.Proofs.YtoakfknnaiapiaaGreat
/-
 A server's share opened in its place,and shut again. (Conditions:none;generic over the program.)
-/
set_option maxRecDepth 20000
namespace Go.SvM
open Go.SL Go.ShM Go.RowKit
theorem IQ{k:Ky}{L:List En} :Value.tuple #[((E8 k (L.map En.kp)).map Cc).getD (.pointer none),.bool (E8 k (L.map En.kp)).isSome]=Value.tuple #[((DV k L).map fun x=>Cc x.p).getD (.pointer none),.bool (DV k L).isSome]:=by
 rw [fU]
 cases DV k L <;>rfl
theorem Mw{k:Ky}{L:List En} :((E8 k (L.map En.kp)).map Cc).getD (.pointer none)=((DV k L).map fun x=>Cc x.p).getD (.pointer none):=by
 rw [fU]
 cases DV k L <;>rfl
theorem Hm{tK tU:TypeId}{x:En}{A B:List En}{S:List Ao}{w:World} :sat w (star (Cb tK tU) (A++x::B)::S)<->sat w (cl x.p tK [sl x.a x.e.b.length x.cap,.map (some x.m)]::Aa x.a x.cap 1 tU (eU .u8 (w:=8)) x.e.b::Bs x.m Dn DY x.e.ls::star (Cb tK tU) (A++B)::S):=by
 rw [<-Gj]
 exact⟨fun h=>Dz List.perm_middle h,fun h=>Dz List.perm_middle.symm h⟩
section
variable {P : Program} {m : Md} {ops : Array Oper} {Q : Exit → Act → World → Prop} {w0 : World} {n : Nat} {rest : List Oper} {L : List (Nat × Value)} {A0 R : List Ao} {c : Code}
theorem ED(tK tU:TypeId)(A:List En)(x:En)(B:List En)(k:WC P m Q w0 n c L (cl x.p tK [sl x.a x.e.b.length x.cap,.map (some x.m)]::Aa x.a x.cap 1 tU (eU .u8 (w:=8)) x.e.b::Bs x.m Dn DY x.e.ls::star (Cb tK tU) (A++B)::R))(hE:Ext A0 (star (Cb tK tU) (A++x::B)) R:=by repeat (first|with_reducible exact Ext.here|with_reducible apply Ext.there)):WC P m Q w0 n c L A0:=
 Cz (fun _ hs=>Hm.1 (AS hE hs)) k
theorem Mb{tK tU:TypeId}{x:En}{e':Kp}{A B:List En}{S:List Ao}{w:World}(hb:e'.b=x.e.b)(h:sat w (cl x.p tK [sl x.a x.e.b.length x.cap,.map (some x.m)]::Aa x.a x.cap 1 tU (eU .u8 (w:=8)) x.e.b::Bs x.m Dn DY e'.ls::star (Cb tK tU) (A++B)::S)):sat w (star (Cb tK tU) (A++x.put e'::B)::S):=by
 rw [Hm]
 unfold En.put
 dsimp only
 rw [hb];exact h
theorem Fp{K:Act ->World ->Prop}(tK tU:TypeId)(A:List En)(x:En)(B:List En)(k:Ps m K w0 n L (star (Cb tK tU) (A++x::B)::R))(hG:Gv A0 [cl x.p tK [sl x.a x.e.b.length x.cap,.map (some x.m)],Aa x.a x.cap 1 tU (eU .u8 (w:=8)) x.e.b,Bs x.m Dn DY x.e.ls,star (Cb tK tU) (A++B)] R:=by repeat (first|with_reducible exact Gv.nil|(with_reducible apply Gv.cons;· (repeat (first|with_reducible exact Ext.here|with_reducible apply Ext.there))))):Ps m K w0 n L A0:=
 I3 (fun _ hs=>Hm.2 (AS hG hs)) k
theorem Jp(tK tU:TypeId)(A:List En)(x:En)(B:List En)(k:WL P m ops Q w0 n rest L (star (Cb tK tU) (A++x::B)::R))(hG:Gv A0 [cl x.p tK [sl x.a x.e.b.length x.cap,.map (some x.m)],Aa x.a x.cap 1 tU (eU .u8 (w:=8)) x.e.b,Bs x.m Dn DY x.e.ls,star (Cb tK tU) (A++B)] R:=by repeat (first|with_reducible exact Gv.nil|(with_reducible apply Gv.cons;· (repeat (first|with_reducible exact Ext.here|with_reducible apply Ext.there))))):WL P m ops Q w0 n rest L A0:=
 ER (fun _ hs=>Hm.2 (AS hG hs)) k
theorem Nc{K:Act ->World ->Prop}(tK tU:TypeId)(ix:Ix)(nn:Int)(b:List B8)(ls:List Ls)(p:Nat)(a:Option Nat)(cap mm:Nat)(L0:List En)(k:Ps m K w0 n L (star (Cb tK tU) ((⟨⟨ix,nn,b,ls⟩,p,a,cap,mm⟩:En)::L0)::R))(hG:Gv A0 [cl p tK [sl a b.length cap,.map (some mm)],Aa a cap 1 tU (eU .u8 (w:=8)) b,Bs mm Dn DY ls,star (Cb tK tU) L0] R:=by repeat (first|with_reducible exact Gv.nil|(with_reducible apply Gv.cons;· (repeat (first|with_reducible exact Ext.here|with_reducible apply Ext.there))))):Ps m K w0 n L A0:=
 I3 (fun _ hs=>(Gj (x:=(⟨⟨ix,nn,b,ls⟩,p,a,cap,mm⟩:En))).2 (AS hG hs)) k
end
theorem Ox{ix:Ix}{n:Int}{b:List B8}{ls:List Ls}{L:List En}{p:Nat}{a:Option Nat}{cap m:Nat}(hf:DV (ix,n) L=none):(EQ (ix,n) p (L.map En.kp)).Perm ((Gy (⟨⟨ix,n,b,ls⟩,p,a,cap,m⟩:En) L).map En.kp):=by
 unfold EQ
 rw [FW (Sk hf)]
 exact(FB (⟨⟨ix,n,b,ls⟩,p,a,cap,m⟩:En) L).map En.kp
end Go.SvM
/-
 What is read off:x[:n:n],a text out of bytes. (Conditions:none;generic over the program.)
-/
namespace Go.SL
open Go.RowKit
theorem Z8{α:Type}{A:List Ao}{v:Value}{e:Nat}{f:α ->List Value}{l:List α}{ao:Option Addr}{cap:Nat}(h:Sv A v e f l ao cap)(hn:ao.isNone=true):l= []:=by
 rcases Nat.eq_zero_or_pos l.length with q|q
 ·exact List.eq_nil_of_length_eq_zero q
 ·have:=h.ptr q
  rw [this] at hn;cases hn
open Go.SL Go.RowKit
section
variable {P : Program} {n : Nat} {L : List (Nat × Value)} {A : List Ao} {d : Option Tmp} {ty : TypeId} {DJ : String} {af : Array Edge} {g : Option (Nat × Bool)}
def Q5(l:List (BitVec 8)):ByteArray:=⟨(l.map UInt8.ofBitVec).toArray⟩
theorem Q4(s:ByteArray):Q5 (ef s)=s:=by
 unfold Q5 ef
 rw [List.map_map]
 have:(UInt8.ofBitVec ∘ UInt8.toBitVec)=id:=by funext x;rfl
 rw [this,List.map_id,Array.toArray_toList]
theorem RR(l:List (BitVec 8)):ef (Q5 l)=l:=by
 unfold Q5 ef
 simp only [List.map_map]
 have:(UInt8.toBitVec ∘ UInt8.ofBitVec)=id:=by funext x;rfl
 rw [this,List.map_id]
theorem WA{a b:ByteArray}(h:(a.toList==b.toList)=true):a=b:=by
 have h2:a.toList=b.toList:=by simpa using h
 rw [ByteArray.toList_eq,ByteArray.toList_eq] at h2
 rw [<-Q4 a,<-Q4 b]
 unfold ef
 rw [h2]
theorem R9: ∀(l:List (BitVec 8)) (s:ByteArray),(l.map fun b=>((b.toNat:Nat):Int)).foldl (fun r n=>r.push (UInt8.ofNat n.toNat)) s=⟨s.data++(l.map UInt8.ofBitVec).toArray⟩
 | [],s=>by simp
 |b::l,s=>by
  rw [List.map_cons,List.foldl_cons,R9 l]
  have e:UInt8.ofNat b.toNat=UInt8.ofBitVec b:=by
   apply UInt8.toNat_inj.1
   simp [UInt8.toNat_ofNat']
  simp only [Int.toNat_natCast,e]
  congr 1
  simp [ByteArray.push]
theorem OX{t t' et:TypeId}{x:Operand}{v:Value}{l:List (BitVec 8)}{ao:Option Addr}{cap:Nat}{B:List Ao}(hx:ev L x=some v)(ht:P.underlying t=some (.slice et))(ht':P.underlying t'=some .string)(he:P.underlying et=some (.int .u8))(hA:Sv B v 1 (eU .u8 (w:=8)) l ao cap:=by assumption)(hB:Sub A B:=by repeat (first|with_reducible exact Sub.refl|with_reducible exact Sub.nil|with_reducible refine Sub.cons (by repeat (first|with_reducible exact Ext.here|with_reducible apply Ext.there)) ?_|with_reducible refine Sub.tail ?_)):
  Rd P n ⟨d,.convert t t' x,ty,DJ,af,g⟩ L A (.string (Q5 l)):=fun a w hf hs=>by
 have hS:=hA.mono hB
 obtain⟨h1,h2,h3⟩:=Pl (P:=P) hS
 have hc:=h3 w hs
 rw [hS.val] at hx hc
 simp only [execOp,hf.eval hx,Sem.run_bind,Sem.run_pure,Result.andThen_ok]
 rw [run_convert_bytes_string w t t' et ao l.length cap ht he ht']
 cases ao with
 |none=>
  have hl:l= []:=by
   rcases Classical.em (l= []) with q|q
   ·exact q
   ·obtain⟨_,_,e⟩:=hS.adr q;cases e
  subst hl
  rfl
 |some ad=>
  have e:l.flatMap (eU .u8 (w:=8))=(l.map fun b=>((b.toNat:Nat):Int)).map (Value.int .u8):=by
   rw [List.map_map]
   clear hS hc h1 h2 h3 hx hA
   induction l with
   |nil=>rfl
   |cons b l ih=>rw [List.flatMap_cons,ih];rfl
  simp only [Builtin.firstCells,Nat.mul_one] at hc
  rw [e] at hc
  rw [run_bytesToString w ad l.length cap _ hc,R9]
  unfold Q5
  simp [ByteArray.empty,ByteArray.emptyWithCapacity]
  rfl
end
end Go.SL
namespace Go.Proofs.YtoakfknnaiapiaaGreat
open Go.RowKit Go.SL Go.ShM Go.SvM
set_option maxHeartbeats 1000000
set_option maxRecDepth 20000
set_option linter.all false

theorem DU(ix:Ix)(n:Int):Er [(0,16),(16,1)] [(0,aU .u8 ix.l),(1,.int .i64 n)] [.int .u8 0,.int .u8 0,.int .u8 0,.int .u8 0,.int .u8 0,.int .u8 0,.int .u8 0,.int .u8 0,.int .u8 0,.int .u8 0,.int .u8 0,.int .u8 0,.int .u8 0,.int .u8 0,.int .u8 0,.int .u8 0,.int .i64 0]=some (Dt (ix,n)):=by
 obtain⟨l,h⟩:=ix
 obtain⟨a0,a1,a2,a3,a4,a5,a6,a7,a8,a9,a10,a11,a12,a13,a14,a15,rfl⟩:=Qp l h
 rfl
end Go.Proofs.YtoakfknnaiapiaaGreat
