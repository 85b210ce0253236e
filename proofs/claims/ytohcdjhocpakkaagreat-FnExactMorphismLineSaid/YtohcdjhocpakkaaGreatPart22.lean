/- Texts of the claim, joined: How two edges compare and others. -/
import Derived.Test.YtohcdjhocpakkaaGreatPart18
import Derived.Test.YtohcdjhocpakkaaGreatChecked
import Derived.Laws.StructEq
namespace Go.Proofs.YtohcdjhocpakkaaGreat
open Go.H
set_option linter.unusedVariables false
set_option linter.unusedSimpArgs false
set_option maxRecDepth 10000
theorem t0i(o:Oper)(x g:Operand)(m:o.op = .binOp .neq 98 x g 98)(a b c w0 d f:Int):
  Z06 Tryz.prog o x g (.agg #[.int .i64 a,.int .i64 b,.int .i64 c]) (.agg #[.int .i64 w0,.int .i64 d,.int .i64 f]) (!(decide ((a,b,c)=(w0,d,f)))):=by
 intro ρ n p w
 unfold execOp
 rw[m]
 have h:Tryz.prog.eqGuardType Tryz.prog.depth 98=false:=by kernel_rfl
 have i:Tryz.prog.stoodInHeld 98=false:=by kernel_rfl
 have j:Tryz.prog.underlying 98=some (.struct (Tryz.prog.fieldsOf 98)):=by kernel_rfl
 have k:(Tryz.prog.fieldsOf 98).toList = [{ name := "From",type:=3,offset:=0,embedded:=false,tag := "",pkgPath := "",byteOffset:=0 },{ name := "Letter",type:=3,offset:=1,embedded:=false,tag := "",pkgPath := "",byteOffset:=8 },{ name := "To",type:=3,offset:=2,embedded:=false,tag := "",pkgPath := "",byteOffset:=16 }]:=by kernel_rfl
 have l:Tryz.prog.underlying 3=some (.int .i64):=Tryz.underlying3
 simp only[n,p,Sem.run_bind,run_eqGuard_agg _ _ _ _ _ _ _ h,Result.andThen_ok,run_neq_struct,run_equalIn_agg _ _ _ _ _ j i,k,Op.eqFields]
 simp[Sem.run_bind,go_sem,l]
 by_cases g0:a=w0<;>by_cases g1:b=d<;>by_cases g2:c=f<;>simp[g0,g1,g2]
theorem K0r(o:Oper)(x g:Operand)(m:o.op = .binOp .eql 98 x g 98)(a b c w0 d f:Int):
  Z06 Tryz.prog o x g (.agg #[.int .i64 a,.int .i64 b,.int .i64 c]) (.agg #[.int .i64 w0,.int .i64 d,.int .i64 f]) (decide ((a,b,c)=(w0,d,f))):=by
 intro ρ n p w
 unfold execOp
 rw[m]
 have h:Tryz.prog.eqGuardType Tryz.prog.depth 98=false:=by kernel_rfl
 have i:Tryz.prog.stoodInHeld 98=false:=by kernel_rfl
 have j:Tryz.prog.underlying 98=some (.struct (Tryz.prog.fieldsOf 98)):=by kernel_rfl
 have k:(Tryz.prog.fieldsOf 98).toList = [{ name := "From",type:=3,offset:=0,embedded:=false,tag := "",pkgPath := "",byteOffset:=0 },{ name := "Letter",type:=3,offset:=1,embedded:=false,tag := "",pkgPath := "",byteOffset:=8 },{ name := "To",type:=3,offset:=2,embedded:=false,tag := "",pkgPath := "",byteOffset:=16 }]:=by kernel_rfl
 have l:Tryz.prog.underlying 3=some (.int .i64):=Tryz.underlying3
 simp only[n,p,Sem.run_bind,run_eqGuard_agg _ _ _ _ _ _ _ h,Result.andThen_ok,run_eql_struct,run_equalIn_agg _ _ _ _ _ j i,k,Op.eqFields]
 simp[Sem.run_bind,go_sem,l]
 by_cases g0:a=w0<;>by_cases g1:b=d<;>by_cases g2:c=f<;>simp[g0,g1,g2]
theorem j08(h:Hp)(cs:List Value)(x:J0)(q:E2.R h cs x):E2.W h cs x []:=by
 obtain⟨d,f,g,rfl,rfl,a,b,c⟩:=M2 q
 exact d0l a b c
theorem u0t(o:Oper)(x c:Operand)(h:o.op = .binOp .eql 40 x c 40)(a:Option Addr)(n m:Nat):Z06 Tryz.prog o x c (.slice a n m) (.slice none 0 0) a.isNone:=by
 intro ρ i j w
 unfold execOp
 rw[h]
 have b:Tryz.prog.underlying 40=some (.slice 3):=Tryz.underlying40
 have f:∀(d:Nat),Sem.run Tryz.prog (Op.equalIn (d+1) 40 (.slice a n m) (.slice none 0 0)) w = .ok a.isNone w:=λd=>by
  unfold Op.equalIn
  cases a<;>simp[Sem.run_bind,run_underlying b]
 have g:=f 9999
 simp[i,j,Sem.run_bind,go_sem,b,eqGuard,binOp,Op.equal]
 rw[show Op.maxDepth=9999+1 from rfl,g]
 rfl
theorem g0h(o:Oper)(x c:Operand)(h:o.op = .binOp .neq 40 x c 40)(a:Option Addr)(n m:Nat):Z06 Tryz.prog o x c (.slice a n m) (.slice none 0 0) (!a.isNone):=by
 intro ρ i j w
 unfold execOp
 rw[h]
 have b:Tryz.prog.underlying 40=some (.slice 3):=Tryz.underlying40
 have f:∀(d:Nat),Sem.run Tryz.prog (Op.equalIn (d+1) 40 (.slice a n m) (.slice none 0 0)) w = .ok a.isNone w:=λd=>by
  unfold Op.equalIn
  cases a<;>simp[Sem.run_bind,run_underlying b]
 have g:=f 9999
 simp[i,j,Sem.run_bind,go_sem,b,eqGuard,binOp,Op.equal]
 rw[show Op.maxDepth=9999+1 from rfl,g]
 cases a<;>rfl
end Go.Proofs.YtohcdjhocpakkaaGreat
