/- Texts of the claim, joined: How two edges compare and others. -/
import Derived.Test.YtmgikbbmpnbbjaaGreatPart20
import Derived.Test.YtmgikbbmpnbbjaaGreatChecked
import Derived.Laws.StructEq
namespace Go.Proofs.YtmgikbbmpnbbjaaGreat
open Go.H
set_option linter.unusedVariables false
set_option linter.unusedSimpArgs false
set_option maxRecDepth 10000
theorem C0j(o:Oper)(x y:Operand)(k:o.op = .binOp .neq 124 x y 124)(a b c w0 d e:Int):
  L0a Tryz.prog o x y (.agg #[.int .i64 a,.int .i64 b,.int .i64 c]) (.agg #[.int .i64 w0,.int .i64 d,.int .i64 e]) (!(decide ((a,b,c)=(w0,d,e)))):=by
 intro n l m w
 unfold execOp
 rw[k]
 have f:Tryz.prog.eqGuardType Tryz.prog.depth 124=false:=by kernel_rfl
 have g:Tryz.prog.stoodInHeld 124=false:=by kernel_rfl
 have h:Tryz.prog.underlying 124=some (.struct (Tryz.prog.fieldsOf 124)):=by kernel_rfl
 have i:(Tryz.prog.fieldsOf 124).toList = [{ name := "From",type:=3,offset:=0,embedded:=false,tag := "",pkgPath := "",byteOffset:=0 },{ name := "Letter",type:=3,offset:=1,embedded:=false,tag := "",pkgPath := "",byteOffset:=8 },{ name := "To",type:=3,offset:=2,embedded:=false,tag := "",pkgPath := "",byteOffset:=16 }]:=by kernel_rfl
 have j:Tryz.prog.underlying 3=some (.int .i64):=Tryz.underlying3
 simp only[l,m,Sem.run_bind,run_eqGuard_agg _ _ _ _ _ _ _ f,Result.andThen_ok,run_neq_struct,run_equalIn_agg _ _ _ _ _ h g,i,Op.eqFields]
 simp[Sem.run_bind,go_sem,j]
 by_cases g0:a=w0<;>by_cases g1:b=d<;>by_cases g2:c=e<;>simp[g0,g1,g2]
theorem I0o(o:Oper)(x y:Operand)(k:o.op = .binOp .eql 124 x y 124)(a b c w0 d e:Int):
  L0a Tryz.prog o x y (.agg #[.int .i64 a,.int .i64 b,.int .i64 c]) (.agg #[.int .i64 w0,.int .i64 d,.int .i64 e]) (decide ((a,b,c)=(w0,d,e))):=by
 intro n l m w
 unfold execOp
 rw[k]
 have f:Tryz.prog.eqGuardType Tryz.prog.depth 124=false:=by kernel_rfl
 have g:Tryz.prog.stoodInHeld 124=false:=by kernel_rfl
 have h:Tryz.prog.underlying 124=some (.struct (Tryz.prog.fieldsOf 124)):=by kernel_rfl
 have i:(Tryz.prog.fieldsOf 124).toList = [{ name := "From",type:=3,offset:=0,embedded:=false,tag := "",pkgPath := "",byteOffset:=0 },{ name := "Letter",type:=3,offset:=1,embedded:=false,tag := "",pkgPath := "",byteOffset:=8 },{ name := "To",type:=3,offset:=2,embedded:=false,tag := "",pkgPath := "",byteOffset:=16 }]:=by kernel_rfl
 have j:Tryz.prog.underlying 3=some (.int .i64):=Tryz.underlying3
 simp only[l,m,Sem.run_bind,run_eqGuard_agg _ _ _ _ _ _ _ f,Result.andThen_ok,run_eql_struct,run_equalIn_agg _ _ _ _ _ h g,i,Op.eqFields]
 simp[Sem.run_bind,go_sem,j]
 by_cases g0:a=w0<;>by_cases g1:b=d<;>by_cases g2:c=e<;>simp[g0,g1,g2]
theorem T05(h:Hp)(cs:List Value)(x:K0)(q:D1.R h cs x):D1.W h cs x []:=by
 obtain⟨d,e,f,rfl,rfl,a,b,c⟩:=Y1 q
 exact t0m a b c
theorem x0u(o:Oper)(x y:Operand)(f:o.op = .binOp .eql 33 x y 33)(a:Option Addr)(n m:Nat):L0a Tryz.prog o x y (.slice a n m) (.slice none 0 0) a.isNone:=by
 intro i g h w
 unfold execOp
 rw[f]
 have b:Tryz.prog.underlying 33=some (.slice 3):=Tryz.underlying33
 have c:∀(d:Nat),Sem.run Tryz.prog (Op.equalIn (d+1) 33 (.slice a n m) (.slice none 0 0)) w = .ok a.isNone w:=λd=>by
  unfold Op.equalIn
  cases a<;>simp[Sem.run_bind,run_underlying b]
 have e:=c 9999
 simp[g,h,Sem.run_bind,go_sem,b,eqGuard,binOp,Op.equal]
 rw[show Op.maxDepth=9999+1 from rfl,e]
 rfl
end Go.Proofs.YtmgikbbmpnbbjaaGreat
