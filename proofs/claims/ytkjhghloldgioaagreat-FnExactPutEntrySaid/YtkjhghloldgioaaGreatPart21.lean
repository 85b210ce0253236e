/- Texts of the claim, joined: How two edges compare and others. -/
import Derived.Test.YtkjhghloldgioaaGreatPart17
import Derived.Test.YtkjhghloldgioaaGreatChecked
import Derived.Laws.StructEq
namespace Go.Proofs.YtkjhghloldgioaaGreat
open Go.H
set_option linter.unusedVariables false
set_option linter.unusedSimpArgs false
set_option maxRecDepth 10000
theorem d0a(o:Oper)(x f:Operand)(l:o.op = .binOp .neq 166 x f 166)(a b c w0 d e:Int):
  j04 Tryz.prog o x f (.agg #[.int .i64 a,.int .i64 b,.int .i64 c]) (.agg #[.int .i64 w0,.int .i64 d,.int .i64 e]) (!(decide ((a,b,c)=(w0,d,e)))):=by
 intro p m n w
 unfold execOp
 rw[l]
 have g:Tryz.prog.eqGuardType Tryz.prog.depth 166=false:=by kernel_rfl
 have h:Tryz.prog.stoodInHeld 166=false:=by kernel_rfl
 have i:Tryz.prog.underlying 166=some (.struct (Tryz.prog.fieldsOf 166)):=by kernel_rfl
 have j:(Tryz.prog.fieldsOf 166).toList = [{ name := "From",type:=3,offset:=0,embedded:=false,tag := "",pkgPath := "",byteOffset:=0 },{ name := "Letter",type:=3,offset:=1,embedded:=false,tag := "",pkgPath := "",byteOffset:=8 },{ name := "To",type:=3,offset:=2,embedded:=false,tag := "",pkgPath := "",byteOffset:=16 }]:=by kernel_rfl
 have k:Tryz.prog.underlying 3=some (.int .i64):=Tryz.underlying3
 simp only[m,n,Sem.run_bind,run_eqGuard_agg _ _ _ _ _ _ _ g,Result.andThen_ok,run_neq_struct,run_equalIn_agg _ _ _ _ _ i h,j,Op.eqFields]
 simp[Sem.run_bind,go_sem,k]
 by_cases g0:a=w0<;>by_cases g1:b=d<;>by_cases g2:c=e<;>simp[g0,g1,g2]
theorem i0h(o:Oper)(x f:Operand)(l:o.op = .binOp .eql 166 x f 166)(a b c w0 d e:Int):
  j04 Tryz.prog o x f (.agg #[.int .i64 a,.int .i64 b,.int .i64 c]) (.agg #[.int .i64 w0,.int .i64 d,.int .i64 e]) (decide ((a,b,c)=(w0,d,e))):=by
 intro p m n w
 unfold execOp
 rw[l]
 have g:Tryz.prog.eqGuardType Tryz.prog.depth 166=false:=by kernel_rfl
 have h:Tryz.prog.stoodInHeld 166=false:=by kernel_rfl
 have i:Tryz.prog.underlying 166=some (.struct (Tryz.prog.fieldsOf 166)):=by kernel_rfl
 have j:(Tryz.prog.fieldsOf 166).toList = [{ name := "From",type:=3,offset:=0,embedded:=false,tag := "",pkgPath := "",byteOffset:=0 },{ name := "Letter",type:=3,offset:=1,embedded:=false,tag := "",pkgPath := "",byteOffset:=8 },{ name := "To",type:=3,offset:=2,embedded:=false,tag := "",pkgPath := "",byteOffset:=16 }]:=by kernel_rfl
 have k:Tryz.prog.underlying 3=some (.int .i64):=Tryz.underlying3
 simp only[m,n,Sem.run_bind,run_eqGuard_agg _ _ _ _ _ _ _ g,Result.andThen_ok,run_eql_struct,run_equalIn_agg _ _ _ _ _ i h,j,Op.eqFields]
 simp[Sem.run_bind,go_sem,k]
 by_cases g0:a=w0<;>by_cases g1:b=d<;>by_cases g2:c=e<;>simp[g0,g1,g2]
theorem y0c(h:Hp)(cs:List Value)(x:C0)(q:D1.R h cs x):D1.W h cs x []:=by
 obtain⟨d,e,f,rfl,rfl,a,b,c⟩:=H1 q
 exact Y01 a b c
theorem A0i(o:Oper)(x c:Operand)(g:o.op = .binOp .eql 33 x c 33)(a:Option Addr)(n m:Nat):j04 Tryz.prog o x c (.slice a n m) (.slice none 0 0) a.isNone:=by
 intro j h i w
 unfold execOp
 rw[g]
 have b:Tryz.prog.underlying 33=some (.slice 3):=Tryz.underlying33
 have e:∀(d:Nat),Sem.run Tryz.prog (Op.equalIn (d+1) 33 (.slice a n m) (.slice none 0 0)) w = .ok a.isNone w:=λd=>by
  unfold Op.equalIn
  cases a<;>simp[Sem.run_bind,run_underlying b]
 have f:=e 9999
 simp[h,i,Sem.run_bind,go_sem,b,eqGuard,binOp,Op.equal]
 rw[show Op.maxDepth=9999+1 from rfl,f]
 rfl
end Go.Proofs.YtkjhghloldgioaaGreat
