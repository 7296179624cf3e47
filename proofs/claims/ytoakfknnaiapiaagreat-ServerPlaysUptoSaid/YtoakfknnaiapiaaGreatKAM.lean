/-
  Contracts of functions that the claim reaches, or the logic and the plain laws that they rest on, or the row over them. (Conditions: none beyond the statement.)
-/
import Derived.Test.YtoakfknnaiapiaaGreatKAL
import Derived.Test.YtoakfknnaiapiaaGreatKAK
set_option linter.all false
namespace Go.Proofs.YtoakfknnaiapiaaGreat
open Go.RowKit Go.SL Go.ShM Go.SvM
set_option maxHeartbeats 1000000
set_option maxRecDepth 20000
set_option linter.all false
theorem Y6:DF Tryz.prog 90=true:=by kernel_rfl
theorem D2{v w:Value}(h:v=w:=by first|(congr 1;done)|(congr 1;simp [Le,Fc, *];done)|(congr 1;simp [Le,Fc, *];omega)|(congr 1;rw [Bool.eq_iff_iff];simp [Le,Fc, *];omega)|(congr 1;rw [Bool.eq_iff_iff];simp [Le,Fc] at* <;>omega)):v=w:=h
theorem ab{k n f c wh un:Int}{x0 x1 x2 x3 x4 x5 x6 x7 x8 x9 x10 x11 x12 x13 x14 x15:Int}{ao:Option Addr}{len cap:Nat} :Ct Tryz.prog 90 [.agg [.int .u8 k,.int .u8 x0,.int .u8 x1,.int .u8 x2,.int .u8 x3,.int .u8 x4,.int .u8 x5,.int .u8 x6,.int .u8 x7,.int .u8 x8,.int .u8 x9,.int .u8 x10,.int .u8 x11,.int .u8 x12,.int .u8 x13,.int .u8 x14,.int .u8 x15,.int .i64 n,.int .i64 f,.int .i64 c,.int .u32 wh,.int .i64 un,.slice ao len cap].toArray,.bool false,.bool false,.bool false,.bool false] [] (fun _:Unit=>.bool (Fc n f c wh un len false false false false)) (fun _=> []):=by
 refine AY (n:=72) Tryz.func90 I I I fun F w0 Q hret hnorm hp=>?_
 change WC _ _ _ _ _ _ _ (F)
 refine A4 fun _ K1=>AB (Ay I I) I I I ?_
 rintro _ _ ⟨b5,rfl,rfl⟩
 refine wA I I<|A3 K1<|A7 fun _ K2=>A4 fun _ K3=>wM I I<|A2 (Au I) I<|wM I I<|A2 (A1 I Bq) I<|A2 (A6 I BF) I ?_
 first|refine As (Bj (j:=0) rfl rfl) rfl rfl rfl ?_|refine As (Dy rfl rfl) rfl rfl rfl ?_
 refine A2 (AC I I) I<|wM I I<|Ae 18 I (fun hg4=>?_) (fun hg4=>?_)
 ·try simp only [dz] at hg4
  refine wK I<|wK I<|wK I<|wK I<|wK I<|wK I<|wK I<|wK I<|wK I<|wK I<|wK I<|wK I<|A2 (AC I I) I<|wM I I<|wK I ?_
  refine wK I<|wK I<|wK I<|wK I<|wK I<|wK I<|wK I<|A2 (AC I I) I<|wM I I<|wK I<|wK I<|wK I<|wK I<|wK I<|wK I ?_
  refine wK I<|wK I<|A2 (AC I I) I<|A3 K3<|Ad I<|A4 fun _ K5=>wA I I<|A3 K5<|AK ?_
  exact hret.gfE () (BR rfl rfl) D2
 try simp only [dz] at hg4
 refine wM I I<|A2 (Au I) I<|wM I I<|A2 (A1 I CH) I<|A2 (A6 I BF) I ?_
 first|refine As (Bj (j:=0) rfl rfl) rfl rfl rfl ?_|refine As (Dy rfl rfl) rfl rfl rfl ?_
 refine wM I I<|Ae 25 I (fun hg6=>?_) (fun hg6=>?_)
 ·try simp only [dz] at hg6
  refine wK I<|wK I<|wK I<|A2 (AC I I) I<|A2 (AC I I) I<|A2 (A8 I I) I<|wM I I<|wK I<|wK I<|wK I<|wK I<|wK I<|wK I<|wK I<|wK I ?_
  refine A2 (AC I I) I<|wM I I<|wK I<|wK I<|wK I<|wK I<|wK I<|wK I<|wK I<|wK I<|A2 (AC I I) I<|A3 K3<|Ad I<|A4 fun _ K7=>wA I I ?_
  refine A3 K7<|AK ?_
  exact hret.gfE () (BR rfl rfl) D2
 try simp only [dz] at hg6
 refine A2 (A1 I Cy) I<|A2 (A6 I BF) I ?_
 first|refine As (Bj (j:=0) rfl rfl) rfl rfl rfl ?_|refine As (Dy rfl rfl) rfl rfl rfl ?_
 refine A2 (A8 I I) I<|A2 (AC I I) I<|A2 (A8 I I) I<|wM I I<|Ae 32 I (fun hg8=>?_) (fun hg8=>?_)
 ·try simp only [dz] at hg8
  refine wK I<|wK I<|wK I<|wK I<|wK I<|wK I<|wK I<|wK I<|A2 (AC I I) I<|wM I I<|wK I<|wK I<|wK I<|wK I<|wK I ?_
  refine wK I<|wK I<|wK I<|A2 (AC I I) I<|A3 K3<|Ad I<|A4 fun _ K9=>wA I I<|A3 K9<|AK ?_
  exact hret.gfE () (BR rfl rfl) D2
 try simp only [dz] at hg8
 refine wM I I<|A2 (Au I) I<|wM I I<|A2 (A1 I BS) I<|A2 (AI I EE) I ?_
 refine A2 (Ah Mj I) I<|A2 (NX I I JR (EqL.sc BX I I (DN MU _ _) (EqL.sc BF I I (DN Vg _ _) EqL.nil))) I ?_
 refine A2 (AC I I) I<|A2 (A8 I I) I<|wM I I<|Ae 42 I (fun hg10=>?_) (fun hg10=>?_)
 ·try simp only [dz] at hg10
  refine wK I<|wK I<|wK I<|wK I<|wK I<|wK I<|wK I<|wK I<|A2 (AC I I) I<|A3 K3<|Ad I<|A4 fun _ K11=>wA I I<|A3 K11<|AK ?_
  exact hret.gfE () (BR rfl rfl) D2
 try simp only [dz] at hg10
 refine wM I I<|A2 (Au I) I<|wM I I<|A2 (A1 I CG) I<|A2 (A6 I Bg) I ?_
 first|refine As (BA rfl rfl BQ) rfl rfl rfl ?_|refine As (Al rfl rfl BQ) rfl rfl rfl ?_
 refine A2 (Bj (j:=0) I I) I ?_
 refine A2 (AC I I) I<|A2 (A8 I I) I<|A3 K3<|AH I (fun hc0=>?_) (fun hc0=>?_)
 ·try simp only [dz] at hc0
  refine A4 fun _ K12=>wA I I<|A3 K12<|AK ?_
  exact hret.gfE () (BR rfl rfl) D2
 try simp only [dz] at hc0
 refine AA<|A5 K2<|A4 fun _ K13=>A2 (A1 I Bq) I<|A2 (A6 I BF) I ?_
 first|refine As (Bl (j:=0) rfl rfl) rfl rfl rfl ?_|refine As (Dm rfl rfl) rfl rfl rfl ?_
 refine wM I I<|Ae 55 I (fun hg14=>?_) (fun hg14=>?_)
 ·try simp only [dz] at hg14
  refine A2 (A1 I Bq) I<|A2 (A6 I BF) I ?_
  first|refine As (An (j:=255) rfl rfl) rfl rfl rfl ?_|refine As (Bt rfl rfl) rfl rfl rfl ?_
  refine A2 (AC I I) I<|wM I I<|Ae 60 I (fun hg15=>?_) (fun hg15=>?_)
  ·try simp only [dz] at hg15
   refine A2 (A1 I BS) I<|A2 (A1 I Bm) I<|A2 (A6 I BF) I ?_
   first|refine As (Bl (j:=0) rfl rfl) rfl rfl rfl ?_|refine As (Dm rfl rfl) rfl rfl rfl ?_
   refine A2 (AC I I) I<|wM I I<|Ae 66 I (fun hg16=>?_) (fun hg16=>?_)
   ·try simp only [dz] at hg16
    refine A2 (A1 I BS) I<|A2 (A1 I Bm) I<|A2 (A6 I BF) I ?_
    first|refine As (D5 (j:=1099511627776) rfl rfl) rfl rfl rfl ?_|refine As (GI rfl rfl) rfl rfl rfl ?_
    refine A2 (AC I I) I<|wA I I<|A3 K13<|AK ?_
    exact hret.gfE () (BR rfl rfl) D2
   try simp only [dz] at hg16
   refine wK I<|wK I<|wK I<|wK I<|A2 (A8 I I) I<|wA I I<|A3 K13<|AK ?_
   exact hret.gfE () (BR rfl rfl) D2
  try simp only [dz] at hg15
  refine wK I<|wK I<|wK I<|wK I<|A2 (A8 I I) I<|wM I I<|wK I<|wK I<|wK I<|wK I<|A2 (A8 I I) I<|wA I I<|A3 K13<|AK ?_
  exact hret.gfE () (BR rfl rfl) D2
 try simp only [dz] at hg14
 refine wK I<|wK I<|wK I<|A2 (A8 I I) I<|wM I I<|wK I<|wK I<|wK I<|wK I<|A2 (A8 I I) I<|wM I I<|wK I<|wK I<|wK I<|wK I ?_
 refine A2 (A8 I I) I<|wA I I<|A3 K13<|AK ?_
 exact hret.gfE () (BR rfl rfl) D2

theorem aa{k n f c wh un:Int}{x0 x1 x2 x3 x4 x5 x6 x7 x8 x9 x10 x11 x12 x13 x14 x15:Int}{ao:Option Addr}{len cap:Nat} :Ct Tryz.prog 90 [.agg [.int .u8 k,.int .u8 x0,.int .u8 x1,.int .u8 x2,.int .u8 x3,.int .u8 x4,.int .u8 x5,.int .u8 x6,.int .u8 x7,.int .u8 x8,.int .u8 x9,.int .u8 x10,.int .u8 x11,.int .u8 x12,.int .u8 x13,.int .u8 x14,.int .u8 x15,.int .i64 n,.int .i64 f,.int .i64 c,.int .u32 wh,.int .i64 un,.slice ao len cap].toArray,.bool true,.bool false,.bool true,.bool true] [] (fun _:Unit=>.bool (Fc n f c wh un len true false true true)) (fun _=> []):=by
 refine AY (n:=72) Tryz.func90 I I I fun F w0 Q hret hnorm hp=>?_
 change WC _ _ _ _ _ _ _ (F)
 refine A4 fun _ K1=>AB (Ay I I) I I I ?_
 rintro _ _ ⟨b5,rfl,rfl⟩
 refine wA I I<|A3 K1<|A7 fun _ K2=>A4 fun _ K3=>wM I I<|A2 (Au I) I<|wM I I<|wK I<|wK I<|wK I<|A2 (A8 I I) I<|wM I I<|wM I I<|A2 (Au I) I<|wM I I ?_
 refine A2 (A1 I CH) I<|A2 (A6 I BF) I ?_
 first|refine As (Bj (j:=0) rfl rfl) rfl rfl rfl ?_|refine As (Dy rfl rfl) rfl rfl rfl ?_
 refine wM I I<|Ae 25 I (fun hg4=>?_) (fun hg4=>?_)
 ·try simp only [dz] at hg4
  refine wK I<|wK I<|wK I<|A2 (AC I I) I<|A2 (AC I I) I<|A2 (A8 I I) I<|wM I I<|wK I<|wK I<|wK I<|wK I<|wK I<|wK I<|wK I<|wK I ?_
  refine A2 (AC I I) I<|wM I I<|wK I<|wK I<|wK I<|wK I<|wK I<|wK I<|wK I<|wK I<|A2 (AC I I) I<|A3 K3<|Ad I<|A4 fun _ K5=>wA I I ?_
  refine A3 K5<|AK ?_
  exact hret.gfE () (BR rfl rfl) D2
 try simp only [dz] at hg4
 refine A2 (A1 I Cy) I<|A2 (A6 I BF) I ?_
 first|refine As (Bj (j:=0) rfl rfl) rfl rfl rfl ?_|refine As (Dy rfl rfl) rfl rfl rfl ?_
 refine A2 (A8 I I) I<|A2 (AC I I) I<|A2 (A8 I I) I<|wM I I<|Ae 32 I (fun hg6=>?_) (fun hg6=>?_)
 ·try simp only [dz] at hg6
  refine wK I<|wK I<|wK I<|wK I<|wK I<|wK I<|wK I<|wK I<|A2 (AC I I) I<|wM I I<|wK I<|wK I<|wK I<|wK I<|wK I ?_
  refine wK I<|wK I<|wK I<|A2 (AC I I) I<|A3 K3<|Ad I<|A4 fun _ K7=>wA I I<|A3 K7<|AK ?_
  exact hret.gfE () (BR rfl rfl) D2
 try simp only [dz] at hg6
 refine wM I I<|A2 (Au I) I<|wM I I<|wK I<|wK I<|wK I<|wK I<|A2 (A8 I I) I<|A2 (A8 I I) I<|wM I I<|wM I I<|A2 (Au I) I<|wM I I<|wK I<|wK I ?_
 refine wK I<|wK I<|A2 (A8 I I) I<|A2 (A8 I I) I<|A3 K3<|AM I<|AA<|A5 K2<|A4 fun _ K8=>A2 (A1 I Bq) I<|A2 (A6 I BF) I ?_
 first|refine As (Bl (j:=0) rfl rfl) rfl rfl rfl ?_|refine As (Dm rfl rfl) rfl rfl rfl ?_
 refine wM I I<|Ae 55 I (fun hg9=>?_) (fun hg9=>?_)
 ·try simp only [dz] at hg9
  refine A2 (A1 I Bq) I<|A2 (A6 I BF) I ?_
  first|refine As (An (j:=255) rfl rfl) rfl rfl rfl ?_|refine As (Bt rfl rfl) rfl rfl rfl ?_
  refine A2 (AC I I) I<|wM I I<|Ae 60 I (fun hg10=>?_) (fun hg10=>?_)
  ·try simp only [dz] at hg10
   refine A2 (A1 I BS) I<|A2 (A1 I Bm) I<|A2 (A6 I BF) I ?_
   first|refine As (Bl (j:=0) rfl rfl) rfl rfl rfl ?_|refine As (Dm rfl rfl) rfl rfl rfl ?_
   refine A2 (AC I I) I<|wM I I<|Ae 66 I (fun hg11=>?_) (fun hg11=>?_)
   ·try simp only [dz] at hg11
    refine A2 (A1 I BS) I<|A2 (A1 I Bm) I<|A2 (A6 I BF) I ?_
    first|refine As (D5 (j:=1099511627776) rfl rfl) rfl rfl rfl ?_|refine As (GI rfl rfl) rfl rfl rfl ?_
    refine A2 (AC I I) I<|wA I I<|A3 K8<|AK ?_
    exact hret.gfE () (BR rfl rfl) D2
   try simp only [dz] at hg11
   refine wK I<|wK I<|wK I<|wK I<|A2 (A8 I I) I<|wA I I<|A3 K8<|AK ?_
   exact hret.gfE () (BR rfl rfl) D2
  try simp only [dz] at hg10
  refine wK I<|wK I<|wK I<|wK I<|A2 (A8 I I) I<|wM I I<|wK I<|wK I<|wK I<|wK I<|A2 (A8 I I) I<|wA I I<|A3 K8<|AK ?_
  exact hret.gfE () (BR rfl rfl) D2
 try simp only [dz] at hg9
 refine wK I<|wK I<|wK I<|A2 (A8 I I) I<|wM I I<|wK I<|wK I<|wK I<|wK I<|A2 (A8 I I) I<|wM I I<|wK I<|wK I<|wK I<|wK I ?_
 refine A2 (A8 I I) I<|wA I I<|A3 K8<|AK ?_
 exact hret.gfE () (BR rfl rfl) D2

theorem aZ{k n f c wh un:Int}{x0 x1 x2 x3 x4 x5 x6 x7 x8 x9 x10 x11 x12 x13 x14 x15:Int}{ao:Option Addr}{len cap:Nat} :Ct Tryz.prog 90 [.agg [.int .u8 k,.int .u8 x0,.int .u8 x1,.int .u8 x2,.int .u8 x3,.int .u8 x4,.int .u8 x5,.int .u8 x6,.int .u8 x7,.int .u8 x8,.int .u8 x9,.int .u8 x10,.int .u8 x11,.int .u8 x12,.int .u8 x13,.int .u8 x14,.int .u8 x15,.int .i64 n,.int .i64 f,.int .i64 c,.int .u32 wh,.int .i64 un,.slice ao len cap].toArray,.bool true,.bool true,.bool false,.bool false] [] (fun _:Unit=>.bool (Fc n f c wh un len true true false false)) (fun _=> []):=by
 refine AY (n:=72) Tryz.func90 I I I fun F w0 Q hret hnorm hp=>?_
 change WC _ _ _ _ _ _ _ (F)
 refine A4 fun _ K1=>AB (Ay I I) I I I ?_
 rintro _ _ ⟨b5,rfl,rfl⟩
 refine wA I I<|A3 K1<|A7 fun _ K2=>A4 fun _ K3=>wM I I<|A2 (Au I) I<|wM I I<|wK I<|wK I<|wK I<|A2 (A8 I I) I<|wM I I<|wM I I<|A2 (Au I) I<|wM I I ?_
 refine wK I<|wK I<|wK I<|wK I<|wK I<|wK I<|wK I<|wK I<|A2 (A8 I I) I<|A2 (A8 I I) I<|wM I I<|wM I I<|A2 (Au I) I<|wM I I<|A2 (A1 I BS) I ?_
 refine A2 (AI I EE) I ?_
 refine A2 (Ah Mj I) I<|A2 (NX I I JR (EqL.sc BX I I (DN MU _ _) (EqL.sc BF I I (DN Vg _ _) EqL.nil))) I ?_
 refine A2 (AC I I) I<|A2 (A8 I I) I<|wM I I<|Ae 42 I (fun hg4=>?_) (fun hg4=>?_)
 ·try simp only [dz] at hg4
  refine wK I<|wK I<|wK I<|wK I<|wK I<|wK I<|wK I<|wK I<|A2 (AC I I) I<|A3 K3<|Ad I<|A4 fun _ K5=>wA I I<|A3 K5<|AK ?_
  exact hret.gfE () (BR rfl rfl) D2
 try simp only [dz] at hg4
 refine wM I I<|A2 (Au I) I<|wM I I<|A2 (A1 I CG) I<|A2 (A6 I Bg) I ?_
 first|refine As (BA rfl rfl BQ) rfl rfl rfl ?_|refine As (Al rfl rfl BQ) rfl rfl rfl ?_
 refine A2 (Bj (j:=0) I I) I ?_
 refine A2 (AC I I) I<|A2 (A8 I I) I<|A3 K3<|AH I (fun hc0=>?_) (fun hc0=>?_)
 ·try simp only [dz] at hc0
  refine A4 fun _ K6=>wA I I<|A3 K6<|AK ?_
  exact hret.gfE () (BR rfl rfl) D2
 try simp only [dz] at hc0
 refine AA<|A5 K2<|A4 fun _ K7=>A2 (A1 I Bq) I<|A2 (A6 I BF) I ?_
 first|refine As (Bl (j:=0) rfl rfl) rfl rfl rfl ?_|refine As (Dm rfl rfl) rfl rfl rfl ?_
 refine wM I I<|Ae 55 I (fun hg8=>?_) (fun hg8=>?_)
 ·try simp only [dz] at hg8
  refine A2 (A1 I Bq) I<|A2 (A6 I BF) I ?_
  first|refine As (An (j:=255) rfl rfl) rfl rfl rfl ?_|refine As (Bt rfl rfl) rfl rfl rfl ?_
  refine A2 (AC I I) I<|wM I I<|Ae 60 I (fun hg9=>?_) (fun hg9=>?_)
  ·try simp only [dz] at hg9
   refine A2 (A1 I BS) I<|A2 (A1 I Bm) I<|A2 (A6 I BF) I ?_
   first|refine As (Bl (j:=0) rfl rfl) rfl rfl rfl ?_|refine As (Dm rfl rfl) rfl rfl rfl ?_
   refine A2 (AC I I) I<|wM I I<|Ae 66 I (fun hg10=>?_) (fun hg10=>?_)
   ·try simp only [dz] at hg10
    refine A2 (A1 I BS) I<|A2 (A1 I Bm) I<|A2 (A6 I BF) I ?_
    first|refine As (D5 (j:=1099511627776) rfl rfl) rfl rfl rfl ?_|refine As (GI rfl rfl) rfl rfl rfl ?_
    refine A2 (AC I I) I<|wA I I<|A3 K7<|AK ?_
    exact hret.gfE () (BR rfl rfl) D2
   try simp only [dz] at hg10
   refine wK I<|wK I<|wK I<|wK I<|A2 (A8 I I) I<|wA I I<|A3 K7<|AK ?_
   exact hret.gfE () (BR rfl rfl) D2
  try simp only [dz] at hg9
  refine wK I<|wK I<|wK I<|wK I<|A2 (A8 I I) I<|wM I I<|wK I<|wK I<|wK I<|wK I<|A2 (A8 I I) I<|wA I I<|A3 K7<|AK ?_
  exact hret.gfE () (BR rfl rfl) D2
 try simp only [dz] at hg8
 refine wK I<|wK I<|wK I<|A2 (A8 I I) I<|wM I I<|wK I<|wK I<|wK I<|wK I<|A2 (A8 I I) I<|wM I I<|wK I<|wK I<|wK I<|wK I ?_
 refine A2 (A8 I I) I<|wA I I<|A3 K7<|AK ?_
 exact hret.gfE () (BR rfl rfl) D2

theorem Tv{k n f c wh un:Int}{x0 x1 x2 x3 x4 x5 x6 x7 x8 x9 x10 x11 x12 x13 x14 x15:Int}{ao:Option Addr}{len cap:Nat} :Ct Tryz.prog 90 [.agg [.int .u8 k,.int .u8 x0,.int .u8 x1,.int .u8 x2,.int .u8 x3,.int .u8 x4,.int .u8 x5,.int .u8 x6,.int .u8 x7,.int .u8 x8,.int .u8 x9,.int .u8 x10,.int .u8 x11,.int .u8 x12,.int .u8 x13,.int .u8 x14,.int .u8 x15,.int .i64 n,.int .i64 f,.int .i64 c,.int .u32 wh,.int .i64 un,.slice ao len cap].toArray,.bool false,.bool false,.bool true,.bool false] [] (fun _:Unit=>.bool (Fc n f c wh un len false false true false)) (fun _=> []):=by
 refine AY (n:=72) Tryz.func90 I I I fun F w0 Q hret hnorm hp=>?_
 change WC _ _ _ _ _ _ _ (F)
 refine A4 fun _ K1=>AB (Ay I I) I I I ?_
 rintro _ _ ⟨b5,rfl,rfl⟩
 refine wA I I<|A3 K1<|A7 fun _ K2=>A4 fun _ K3=>wM I I<|A2 (Au I) I<|wM I I<|A2 (A1 I Bq) I<|A2 (A6 I BF) I ?_
 first|refine As (Bj (j:=0) rfl rfl) rfl rfl rfl ?_|refine As (Dy rfl rfl) rfl rfl rfl ?_
 refine A2 (AC I I) I<|wM I I<|Ae 18 I (fun hg4=>?_) (fun hg4=>?_)
 ·try simp only [dz] at hg4
  refine wK I<|wK I<|wK I<|wK I<|wK I<|wK I<|wK I<|wK I<|wK I<|wK I<|wK I<|wK I<|A2 (AC I I) I<|wM I I<|wK I ?_
  refine wK I<|wK I<|wK I<|wK I<|wK I<|wK I<|wK I<|A2 (AC I I) I<|wM I I<|wK I<|wK I<|wK I<|wK I<|wK I<|wK I ?_
  refine wK I<|wK I<|A2 (AC I I) I<|A3 K3<|Ad I<|A4 fun _ K5=>wA I I<|A3 K5<|AK ?_
  exact hret.gfE () (BR rfl rfl) D2
 try simp only [dz] at hg4
 refine wM I I<|A2 (Au I) I<|wM I I<|A2 (A1 I CH) I<|A2 (A6 I BF) I ?_
 first|refine As (Bj (j:=0) rfl rfl) rfl rfl rfl ?_|refine As (Dy rfl rfl) rfl rfl rfl ?_
 refine wM I I<|Ae 25 I (fun hg6=>?_) (fun hg6=>?_)
 ·try simp only [dz] at hg6
  refine wK I<|wK I<|wK I<|A2 (AC I I) I<|A2 (AC I I) I<|A2 (A8 I I) I<|wM I I<|wK I<|wK I<|wK I<|wK I<|wK I<|wK I<|wK I<|wK I ?_
  refine A2 (AC I I) I<|wM I I<|wK I<|wK I<|wK I<|wK I<|wK I<|wK I<|wK I<|wK I<|A2 (AC I I) I<|A3 K3<|Ad I<|A4 fun _ K7=>wA I I ?_
  refine A3 K7<|AK ?_
  exact hret.gfE () (BR rfl rfl) D2
 try simp only [dz] at hg6
 refine A2 (A1 I Cy) I<|A2 (A6 I BF) I ?_
 first|refine As (Bj (j:=0) rfl rfl) rfl rfl rfl ?_|refine As (Dy rfl rfl) rfl rfl rfl ?_
 refine A2 (A8 I I) I<|A2 (AC I I) I<|A2 (A8 I I) I<|wM I I<|Ae 32 I (fun hg8=>?_) (fun hg8=>?_)
 ·try simp only [dz] at hg8
  refine wK I<|wK I<|wK I<|wK I<|wK I<|wK I<|wK I<|wK I<|A2 (AC I I) I<|wM I I<|wK I<|wK I<|wK I<|wK I<|wK I ?_
  refine wK I<|wK I<|wK I<|A2 (AC I I) I<|A3 K3<|Ad I<|A4 fun _ K9=>wA I I<|A3 K9<|AK ?_
  exact hret.gfE () (BR rfl rfl) D2
 try simp only [dz] at hg8
 refine wM I I<|A2 (Au I) I<|wM I I<|wK I<|wK I<|wK I<|wK I<|A2 (A8 I I) I<|A2 (A8 I I) I<|wM I I<|wM I I<|A2 (Au I) I<|wM I I<|A2 (A1 I CG) I<|A2 (A6 I Bg) I ?_
 first|refine As (BA rfl rfl BQ) rfl rfl rfl ?_|refine As (Al rfl rfl BQ) rfl rfl rfl ?_
 refine A2 (Bj (j:=0) I I) I ?_
 refine A2 (AC I I) I<|A2 (A8 I I) I<|A3 K3<|AH I (fun hc0=>?_) (fun hc0=>?_)
 ·try simp only [dz] at hc0
  refine A4 fun _ K10=>wA I I<|A3 K10<|AK ?_
  exact hret.gfE () (BR rfl rfl) D2
 try simp only [dz] at hc0
 refine AA<|A5 K2<|A4 fun _ K11=>A2 (A1 I Bq) I<|A2 (A6 I BF) I ?_
 first|refine As (Bl (j:=0) rfl rfl) rfl rfl rfl ?_|refine As (Dm rfl rfl) rfl rfl rfl ?_
 refine wM I I<|Ae 55 I (fun hg12=>?_) (fun hg12=>?_)
 ·try simp only [dz] at hg12
  refine A2 (A1 I Bq) I<|A2 (A6 I BF) I ?_
  first|refine As (An (j:=255) rfl rfl) rfl rfl rfl ?_|refine As (Bt rfl rfl) rfl rfl rfl ?_
  refine A2 (AC I I) I<|wM I I<|Ae 60 I (fun hg13=>?_) (fun hg13=>?_)
  ·try simp only [dz] at hg13
   refine A2 (A1 I BS) I<|A2 (A1 I Bm) I<|A2 (A6 I BF) I ?_
   first|refine As (Bl (j:=0) rfl rfl) rfl rfl rfl ?_|refine As (Dm rfl rfl) rfl rfl rfl ?_
   refine A2 (AC I I) I<|wM I I<|Ae 66 I (fun hg14=>?_) (fun hg14=>?_)
   ·try simp only [dz] at hg14
    refine A2 (A1 I BS) I<|A2 (A1 I Bm) I<|A2 (A6 I BF) I ?_
    first|refine As (D5 (j:=1099511627776) rfl rfl) rfl rfl rfl ?_|refine As (GI rfl rfl) rfl rfl rfl ?_
    refine A2 (AC I I) I<|wA I I<|A3 K11<|AK ?_
    exact hret.gfE () (BR rfl rfl) D2
   try simp only [dz] at hg14
   refine wK I<|wK I<|wK I<|wK I<|A2 (A8 I I) I<|wA I I<|A3 K11<|AK ?_
   exact hret.gfE () (BR rfl rfl) D2
  try simp only [dz] at hg13
  refine wK I<|wK I<|wK I<|wK I<|A2 (A8 I I) I<|wM I I<|wK I<|wK I<|wK I<|wK I<|A2 (A8 I I) I<|wA I I<|A3 K11<|AK ?_
  exact hret.gfE () (BR rfl rfl) D2
 try simp only [dz] at hg12
 refine wK I<|wK I<|wK I<|A2 (A8 I I) I<|wM I I<|wK I<|wK I<|wK I<|wK I<|A2 (A8 I I) I<|wM I I<|wK I<|wK I<|wK I<|wK I ?_
 refine A2 (A8 I I) I<|wA I I<|A3 K11<|AK ?_
 exact hret.gfE () (BR rfl rfl) D2

theorem ZY{k n f c wh un:Int}{x0 x1 x2 x3 x4 x5 x6 x7 x8 x9 x10 x11 x12 x13 x14 x15:Int}{ao:Option Addr}{len cap:Nat} :Ct Tryz.prog 73 [.agg [.int .u8 k,.int .u8 x0,.int .u8 x1,.int .u8 x2,.int .u8 x3,.int .u8 x4,.int .u8 x5,.int .u8 x6,.int .u8 x7,.int .u8 x8,.int .u8 x9,.int .u8 x10,.int .u8 x11,.int .u8 x12,.int .u8 x13,.int .u8 x14,.int .u8 x15,.int .i64 n,.int .i64 f,.int .i64 c,.int .u32 wh,.int .i64 un,.slice ao len cap].toArray] [] (fun _:Unit=>.bool (Le k n f c wh un len)) (fun _=> []):=by
 refine AY (n:=57) Tryz.func73 I I I fun F w0 Q hret hnorm hp=>?_
 change WC _ _ _ _ _ _ _ (F)
 refine A4 fun _ K1=>AB (Ay I I) I I I ?_
 rintro _ _ ⟨b1,rfl,rfl⟩
 refine wA I I<|A3 K1<|A7 fun _ K2=>A4 fun _ K3=>A2 (A1 I C3) I<|A2 (A6 I Dw) I ?_
 refine A3 K3<|AG<|A4 fun _ K4=>?_
 first|refine As (Ab (j:=1) rfl rfl) rfl rfl rfl ?_|refine As (CW rfl rfl) rfl rfl rfl ?_
 refine wA I I<|A3 K4<|AH I (fun hc0=>?_) (fun hc0=>?_)
 ·try simp only [dz] at hc0
  refine A4 fun _ K5=>A2 (AI I EG) I ?_
  refine AB (AE Y6 I (hs:=ab)) I I I ?_
  rintro _ _ ⟨⟨⟩,rfl,hA⟩
  simp only [ca] at hA
  subst hA
  refine wA I I<|A3 K5<|AK ?_
  exact hret.gfE () (BR rfl rfl) D2
 try simp only [dz] at hc0
 refine A4 fun _ K6=>?_
 first|refine As (Ab (j:=2) rfl rfl) rfl rfl rfl ?_|refine As (CW rfl rfl) rfl rfl rfl ?_
 refine wA I I<|A3 K6<|AH I (fun hc1=>?_) (fun hc1=>?_)
 ·try simp only [dz] at hc1
  refine A4 fun _ K7=>A2 (AI I EG) I ?_
  refine AB (AE Y6 I (hs:=aa)) I I I ?_
  rintro _ _ ⟨⟨⟩,rfl,hA⟩
  simp only [ca] at hA
  subst hA
  refine wM I I<|Ae 13 I (fun hg8=>?_) (fun hg8=>?_)
  ·try simp only [dz] at hg8
   refine A2 (A1 I CG) I<|A2 (A6 I Bg) I ?_
   first|refine As (BA rfl rfl BQ) rfl rfl rfl ?_|refine As (Al rfl rfl BQ) rfl rfl rfl ?_
   refine A2 (D5 (j:=33554432) I I) I ?_
   refine A2 (AC I I) I<|wA I I<|A3 K7<|AK ?_
   exact hret.gfE () (BR rfl rfl) D2
  try simp only [dz] at hg8
  refine wK I<|wK I<|wK I<|wK I<|A2 (A8 I I) I<|wA I I<|A3 K7<|AK ?_
  exact hret.gfE () (BR rfl rfl) D2
 try simp only [dz] at hc1
 refine A4 fun _ K9=>?_
 first|refine As (Ab (j:=3) rfl rfl) rfl rfl rfl ?_|refine As (CW rfl rfl) rfl rfl rfl ?_
 refine wA I I<|A3 K9<|AH I (fun hc2=>?_) (fun hc2=>?_)
 ·try simp only [dz] at hc2
  refine A4 fun _ K10=>A2 (AI I EG) I ?_
  refine AB (AE Y6 I (hs:=aZ)) I I I ?_
  rintro _ _ ⟨⟨⟩,rfl,hA⟩
  simp only [ca] at hA
  subst hA
  refine wM I I<|Ae 23 I (fun hg11=>?_) (fun hg11=>?_)
  ·try simp only [dz] at hg11
   refine A2 (A1 I CH) I<|A2 (A6 I BF) I ?_
   first|refine As (Bl (j:=0) rfl rfl) rfl rfl rfl ?_|refine As (Dm rfl rfl) rfl rfl rfl ?_
   refine A2 (AC I I) I<|wM I I<|Ae 28 I (fun hg12=>?_) (fun hg12=>?_)
   ·try simp only [dz] at hg12
    refine A2 (A1 I CH) I<|A2 (A6 I BF) I ?_
    first|refine As (D5 (j:=33554432) rfl rfl) rfl rfl rfl ?_|refine As (GI rfl rfl) rfl rfl rfl ?_
    refine A2 (AC I I) I<|wM I I<|Ae 33 I (fun hg13=>?_) (fun hg13=>?_)
    ·try simp only [dz] at hg13
     refine A2 (A1 I Cy) I<|A2 (A6 I BF) I ?_
     first|refine As (Bl (j:=1) rfl rfl) rfl rfl rfl ?_|refine As (Dm rfl rfl) rfl rfl rfl ?_
     refine A2 (AC I I) I<|wM I I<|Ae 38 I (fun hg14=>?_) (fun hg14=>?_)
     ·try simp only [dz] at hg14
      refine A2 (A1 I Cy) I<|A2 (A6 I BF) I ?_
      first|refine As (D5 (j:=131072) rfl rfl) rfl rfl rfl ?_|refine As (GI rfl rfl) rfl rfl rfl ?_
      refine A2 (AC I I) I<|wA I I<|A3 K10<|AK ?_
      exact hret.gfE () (BR rfl rfl) D2
     try simp only [dz] at hg14
     refine wK I<|wK I<|wK I<|A2 (A8 I I) I<|wA I I<|A3 K10<|AK ?_
     exact hret.gfE () (BR rfl rfl) D2
    try simp only [dz] at hg13
    refine wK I<|wK I<|wK I<|A2 (A8 I I) I<|wM I I<|wK I<|wK I<|wK I<|A2 (A8 I I) I<|wA I I<|A3 K10<|AK ?_
    exact hret.gfE () (BR rfl rfl) D2
   try simp only [dz] at hg12
   refine wK I<|wK I<|wK I<|A2 (A8 I I) I<|wM I I<|wK I<|wK I<|wK I<|A2 (A8 I I) I<|wM I I<|wK I<|wK I<|wK I<|A2 (A8 I I) I<|wA I I ?_
   refine A3 K10<|AK ?_
   exact hret.gfE () (BR rfl rfl) D2
  try simp only [dz] at hg11
  refine wK I<|wK I<|wK I<|A2 (A8 I I) I<|wM I I<|wK I<|wK I<|wK I<|A2 (A8 I I) I<|wM I I<|wK I<|wK I<|wK I<|A2 (A8 I I) I<|wM I I ?_
  refine wK I<|wK I<|wK I<|A2 (A8 I I) I<|wA I I<|A3 K10<|AK ?_
  exact hret.gfE () (BR rfl rfl) D2
 try simp only [dz] at hc2
 refine A4 fun _ K15=>?_
 first|refine As (Ab (j:=4) rfl rfl) rfl rfl rfl ?_|refine As (CW rfl rfl) rfl rfl rfl ?_
 refine wA I I<|A3 K15<|AH I (fun hc3=>?_) (fun hc3=>?_)
 ·try simp only [dz] at hc3
  refine A4 fun _ K16=>A2 (AI I EG) I ?_
  refine AB (AE Y6 I (hs:=Tv)) I I I ?_
  rintro _ _ ⟨⟨⟩,rfl,hA⟩
  simp only [ca] at hA
  subst hA
  refine wA I I<|A3 K16<|AK ?_
  exact hret.gfE () (BR rfl rfl) D2
 try simp only [dz] at hc3
 refine A4 fun _ K17=>?_
 first|refine As (Ab (j:=5) rfl rfl) rfl rfl rfl ?_|refine As (CW rfl rfl) rfl rfl rfl ?_
 refine wA I I<|A3 K17<|AH I (fun hc4=>?_) (fun hc4=>?_)
 ·try simp only [dz] at hc4
  refine A4 fun _ K18=>A2 (AI I EG) I ?_
  refine AB (AE Y6 I (hs:=Tv)) I I I ?_
  rintro _ _ ⟨⟨⟩,rfl,hA⟩
  simp only [ca] at hA
  subst hA
  refine wM I I<|Ae 51 I (fun hg19=>?_) (fun hg19=>?_)
  ·try simp only [dz] at hg19
   refine A2 (A1 I BS) I<|A2 (A1 I Bm) I<|A2 (A6 I BF) I ?_
   first|refine As (Ab (j:=0) rfl rfl) rfl rfl rfl ?_|refine As (CW rfl rfl) rfl rfl rfl ?_
   refine A2 (AC I I) I<|wA I I<|A3 K18<|AK ?_
   exact hret.gfE () (BR rfl rfl) D2
  try simp only [dz] at hg19
  refine wK I<|wK I<|wK I<|wK I<|A2 (A8 I I) I<|wA I I<|A3 K18<|AK ?_
  exact hret.gfE () (BR rfl rfl) D2
 try simp only [dz] at hc4
 refine AA<|A5 K2<|A4 fun _ K20=>wA I I<|A3 K20<|AK ?_
 exact hret.gfE () (BR rfl rfl) D2

theorem H4{r:Rq} :Ct Tryz.prog 73 [.agg (CP r).toArray] [] (fun _:Unit=>.bool (IE r)) (fun _=> []):=by
 obtain⟨k,⟨l,hl⟩,n,f,c,wh,un,b⟩:=r
 obtain⟨a0,a1,a2,a3,a4,a5,a6,a7,a8,a9,a10,a11,a12,a13,a14,a15,rfl⟩:=Qp l hl
 exact ZY (k:=(k.toNat:Int)) (n:=n) (f:=f) (c:=c) (wh:=(wh.toNat:Int)) (un:=un) (len:=b.l.length)
end Go.Proofs.YtoakfknnaiapiaaGreat
/-
 Shares in memory,opened in their place and put back changed;what is made of a state share by share. (Conditions:none;generic over the program.)
-/
set_option maxRecDepth 20000
namespace Go.SvM
open Go.SL Go.ShM Go.RowKit
theorem Fh{tU tL:TypeId}{k:KM}{D E:List KM}{S:List Ao}{w:World} :sat w (star (CQ tU tL) (D++k::E)::S)<->sat w (Aa k.ba k.bc 1 tU (eU .u8 (w:=8)) k.e.b::Aa k.la k.lc 2 tL C9 k.e.ls::star (CQ tU tL) (D++E)::S):=by
 have h1:sat w (star (CQ tU tL) (k::(D++E))::S)<->sat w (Aa k.ba k.bc 1 tU (eU .u8 (w:=8)) k.e.b::Aa k.la k.lc 2 tL C9 k.e.ls::star (CQ tU tL) (D++E)::S):=by
  rw [DZ]
  unfold CQ
  exact Bb
 rw [<-h1]
 exact⟨fun h=>Dz List.perm_middle h,fun h=>Dz List.perm_middle.symm h⟩
def KM.put(k:KM)(ls:List Ls)(la:Option Nat)(lc:Nat):KM:=⟨k.e.with ls,k.ba,k.bc,la,lc⟩
section
variable {P : Program} {m : Md} {ops : Array Oper} {Q : Exit → Act → World → Prop} {w0 : World} {n : Nat} {rest : List Oper} {L : List (Nat × Value)} {A0 R : List Ao} {c : Code}
theorem Hi(tU tL:TypeId)(D:List KM)(k:KM)(E:List KM)(K:WC P m Q w0 n c L (Aa k.ba k.bc 1 tU (eU .u8 (w:=8)) k.e.b::Aa k.la k.lc 2 tL C9 k.e.ls::star (CQ tU tL) (D++E)::R))(hE:Ext A0 (star (CQ tU tL) (D++k::E)) R:=by repeat (first|with_reducible exact Ext.here|with_reducible apply Ext.there)):WC P m Q w0 n c L A0:=
 Cz (fun _ hs=>Fh.1 (AS hE hs)) K
theorem OT(tU tL:TypeId)(D:List KM)(k:KM)(E:List KM)(K:WL P m ops Q w0 n rest L (Aa k.ba k.bc 1 tU (eU .u8 (w:=8)) k.e.b::Aa k.la k.lc 2 tL C9 k.e.ls::star (CQ tU tL) (D++E)::R))(hE:Ext A0 (star (CQ tU tL) (D++k::E)) R:=by repeat (first|with_reducible exact Ext.here|with_reducible apply Ext.there)):WL P m ops Q w0 n rest L A0:=
 ER (fun _ hs=>Fh.1 (AS hE hs)) K
theorem Ik(tU tL:TypeId)(D:List KM)(k:KM)(E:List KM)(ls:List Ls)(la:Option Nat)(lc:Nat)(K:WL P m ops Q w0 n rest L (star (CQ tU tL) (D++k.put ls la lc::E)::R))(hG:Gv A0 [Aa k.ba k.bc 1 tU (eU .u8 (w:=8)) k.e.b,Aa la lc 2 tL C9 ls,star (CQ tU tL) (D++E)] R:=by repeat (first|with_reducible exact Gv.nil|(with_reducible apply Gv.cons;· (repeat (first|with_reducible exact Ext.here|with_reducible apply Ext.there))))):WL P m ops Q w0 n rest L A0:=
 ER (fun _ hs=>(Fh (k:=k.put ls la lc)).2 (AS hG hs)) K
theorem JE(tU tL:TypeId)(D:List KM)(k:KM)(E:List KM)(K:WL P m ops Q w0 n rest L (star (CQ tU tL) (D++k::E)::R))(hG:Gv A0 [Aa k.ba k.bc 1 tU (eU .u8 (w:=8)) k.e.b,Aa k.la k.lc 2 tL C9 k.e.ls,star (CQ tU tL) (D++E)] R:=by repeat (first|with_reducible exact Gv.nil|(with_reducible apply Gv.cons;· (repeat (first|with_reducible exact Ext.here|with_reducible apply Ext.there))))):WL P m ops Q w0 n rest L A0:=
 ER (fun _ hs=>Fh.2 (AS hG hs)) K
theorem YW(tU tL:TypeId)(D E:List KM)(k:KM)(K:WL P m ops Q w0 n rest L (star (CQ tU tL) (D++k::E)::R))(hG:Gv A0 [Aa k.ba k.bc 1 tU (eU .u8 (w:=8)) k.e.b,Aa k.la k.lc 2 tL C9 k.e.ls,star (CQ tU tL) (D++E)] R:=by repeat (first|with_reducible exact Gv.nil|(with_reducible apply Gv.cons;· (repeat (first|with_reducible exact Ext.here|with_reducible apply Ext.there))))):WL P m ops Q w0 n rest L A0:=
 ER (fun _ hs=>Fh.2 (AS hG hs)) K
theorem OU(tU tL:TypeId)(E:List KM)(ix:Ix)(num:Int)(b:List B8)(ls:List Ls)(ba:Option Nat)(bc:Nat)(la:Option Nat)(lc:Nat)(K:WL P m ops Q w0 n rest L (star (CQ tU tL) (⟨⟨ix,num,b,ls⟩,ba,bc,la,lc⟩::E)::R))(hG:Gv A0 [Aa ba bc 1 tU (eU .u8 (w:=8)) b,Aa la lc 2 tL C9 ls,star (CQ tU tL) E] R:=by repeat (first|with_reducible exact Gv.nil|(with_reducible apply Gv.cons;· (repeat (first|with_reducible exact Ext.here|with_reducible apply Ext.there))))):WL P m ops Q w0 n rest L A0:=
 ER (fun _ hs=>(Fh (D:= []) (E:=E) (k:=⟨⟨ix,num,b,ls⟩,ba,bc,la,lc⟩)).2 (AS hG hs)) K
end
theorem J9{α:Type}{l:List α}{i:Nat}{x:α}(h:l[i]? =some x):l.drop i=x::l.drop (i+1):=by
 obtain⟨hi,e⟩:=List.getElem?_eq_some_iff.1 h
 rw [List.drop_eq_getElem_cons hi,e]
theorem TV{kms:List KM}{i:Nat}{k:KM}(h:kms[i]? =some k):(kms.map KM.e)[i]? =some k.e:=by rw [List.getElem?_map,h];rfl
theorem M8(k:KM):(BH k)[16]? =some (.int .i64 k.e.num):=Ly _ _ _ _
theorem Es(k:KM):(BH k)[17]? =some (sl k.ba k.e.b.length k.bc):=O7 _ _ _ _
theorem GF(k:KM):(BH k)[18]? =some (sl k.la k.e.ls.length k.lc):=Je _ _ _ _
theorem Xm(k:KM):((BH k).drop 0).take 16=k.e.ix.l.flatMap (eU .u8):=P5 _ _ _ _
theorem EK(k:KM):((BH k).drop 0).take 19=BH k:=Lz _ _ _ _
theorem Db(k:KM):(BH k).length=19:=Da _ _ _ _
theorem KW(k:KM)(ls:List Ls)(la:Option Nat)(lc:Nat):(BH k).set 18 (sl la ls.length lc)=BH (k.put ls la lc):=Lx _ _ _ _ _
theorem cd(t:Int)(ls:List Ls):D1 t (ls.take 0)= []:=rfl
theorem QD{t:Int}{ls:List Ls}{j:Nat}{y:Ls}(h:ls[j]? =some y)(k:t<=y.2):D1 t (ls.take j)++ [y]=D1 t (ls.take (j+1)):=by
 unfold D1
 rw [BZ h,List.filter_append,List.filter_cons_of_pos (by simpa using k)];rfl
theorem ZE{t:Int}{ls:List Ls}{j:Nat}{y:Ls}(h:ls[j]? =some y)(k: ¬t<=y.2):D1 t (ls.take j)=D1 t (ls.take (j+1)):=by
 unfold D1
 rw [BZ h,List.filter_append,List.filter_cons_of_neg (by simpa using k),List.filter_nil,List.append_nil]
theorem Uj(t:Int)(ls:List Ls):(D1 t ls).length<=ls.length:=List.length_filter_le _ _
theorem Tj{f:Kp ->Option Kp}{l:List Kp}{i:Nat}{e:Kp}(h:l[i]? =some e):(l.take (i+1)).filterMap f=(l.take i).filterMap f++(f e).toList:=by
 rw [BZ h,List.filterMap_append]
 cases hf:f e <;>simp [hf]
theorem Jj{f:Kp ->Option Kp}{kms:List KM}{i:Nat}{k k':KM}{D:List KM}(h:kms[i]? =some k)(hD:D.map KM.e=((kms.map KM.e).take i).filterMap f)(hf:f k.e=some k'.e):(D++ [k']).map KM.e=((kms.map KM.e).take (i+1)).filterMap f:=by
 rw [Tj (TV h),hf,List.map_append,hD];rfl
theorem bh{f:Kp ->Option Kp}{kms:List KM}{i:Nat}{k:KM}{D:List KM}(h:kms[i]? =some k)(hD:D.map KM.e=((kms.map KM.e).take i).filterMap f)(hf:f k.e=none):D.map KM.e=((kms.map KM.e).take (i+1)).filterMap f:=by
 rw [Tj (TV h),hf,hD];simp
theorem Se{f:Kp ->Option Kp}{kms D:List KM}{i:Nat}(hi:kms.length<=i)(hD:D.map KM.e=((kms.map KM.e).take i).filterMap f):D.map KM.e=(kms.map KM.e).filterMap f:=by
 rw [hD,List.take_of_length_le (by rw [List.length_map];exact hi)]
theorem Vs{t:Int}{k:KM}{la:Option Nat}{lc:Nat}(h:0<(D1 t k.e.ls).length):LK t k.e=some (k.put (D1 t k.e.ls) la lc).e:=by
 unfold LK DR
 rw [if_neg (by intro q;rw [q] at h;simp at h)];rfl
theorem Vt{t:Int}{k:KM}(h: ¬0<(D1 t k.e.ls).length):LK t k.e=none:=by
 unfold LK DR
 rw [if_pos (List.eq_nil_of_length_eq_zero (by omega))]
theorem CO(kms:List KM):(kms.map KM.kv).map KV.kp=kms.map KM.e:=by rw [List.map_map];exact List.map_congr_left fun k _=>KM.kv_kp k
theorem Et{A:List Ao}{v:Value}{kms:List KM}{ao:Option Addr}{cap:Nat}(h:Sv A v 19 BH kms ao cap):Sv A v 19 EC (kms.map KM.kv) ao cap:=U0 (g:=EC) (h:=KM.kv) h fun k=>KM.kv_e k
end Go.SvM
