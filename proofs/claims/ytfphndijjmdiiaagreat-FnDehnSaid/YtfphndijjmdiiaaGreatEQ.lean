/- How two edges compare. -/
import Derived.Test.YtfphndijjmdiiaaGreatPart17
import Derived.Test.YtfphndijjmdiiaaGreatChecked
import Derived.Laws.StructEq
namespace Go.Proofs.YtfphndijjmdiiaaGreat
open Go.H
set_option linter.unusedVariables false
set_option linter.unusedSimpArgs false
set_option maxRecDepth 10000
theorem r0t(o:Oper)(x y:Operand)(k:o.op = .binOp .neq 104 x y 104)(a b c w0 d e:Int):
  y0e Tryz.prog o x y (.agg #[.int .i64 a,.int .i64 b,.int .i64 c]) (.agg #[.int .i64 w0,.int .i64 d,.int .i64 e]) (!(decide ((a,b,c)=(w0,d,e)))):=by
 intro n l m w
 unfold execOp
 rw[k]
 have f:Tryz.prog.eqGuardType Tryz.prog.depth 104=false:=by kernel_rfl
 have g:Tryz.prog.stoodInHeld 104=false:=by kernel_rfl
 have h:Tryz.prog.underlying 104=some (.struct (Tryz.prog.fieldsOf 104)):=by kernel_rfl
 have i:(Tryz.prog.fieldsOf 104).toList = [{ name := "From",type:=3,offset:=0,embedded:=false,tag := "",pkgPath := "",byteOffset:=0 },{ name := "Letter",type:=3,offset:=1,embedded:=false,tag := "",pkgPath := "",byteOffset:=8 },{ name := "To",type:=3,offset:=2,embedded:=false,tag := "",pkgPath := "",byteOffset:=16 }]:=by kernel_rfl
 have j:Tryz.prog.underlying 3=some (.int .i64):=Tryz.underlying3
 simp only[l,m,Sem.run_bind,run_eqGuard_agg _ _ _ _ _ _ _ f,Result.andThen_ok,run_neq_struct,run_equalIn_agg _ _ _ _ _ h g,i,Op.eqFields]
 simp[Sem.run_bind,go_sem,j]
 by_cases g0:a=w0<;>by_cases g1:b=d<;>by_cases g2:c=e<;>simp[g0,g1,g2]
theorem h0n(h:Hp)(cs:List Value)(x:Q0)(q:D4.R h cs x):D4.W h cs x []:=by
 obtain⟨d,e,f,rfl,rfl,a,b,c⟩:=E4 q
 exact B0m a b c
end Go.Proofs.YtfphndijjmdiiaaGreat
