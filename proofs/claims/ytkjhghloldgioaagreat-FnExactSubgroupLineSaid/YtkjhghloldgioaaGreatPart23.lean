/- Texts of the claim, joined: How two edges compare and others. -/
import Derived.Test.YtkjhghloldgioaaGreatPart19
import Derived.Test.YtkjhghloldgioaaGreatChecked
import Derived.Laws.StructEq
namespace Go.Proofs.YtkjhghloldgioaaGreat
open Go.H
set_option linter.unusedVariables false
set_option linter.unusedSimpArgs false
set_option maxRecDepth 10000
theorem S0h(o:Oper)(x y:Operand)(ho:o.op = .binOp .neq 166 x y 166)(u0 u1 u2 w0 w1 w2:Int):
  x09 Tryz.prog o x y (.agg #[.int .i64 u0,.int .i64 u1,.int .i64 u2]) (.agg #[.int .i64 w0,.int .i64 w1,.int .i64 w2]) (!(decide ((u0,u1,u2)=(w0,w1,w2)))):=by
 intro ρ hx hy w
 unfold execOp
 rw[ho]
 have h1:Tryz.prog.eqGuardType Tryz.prog.depth 166=false:=by kernel_rfl
 have h2:Tryz.prog.stoodInHeld 166=false:=by kernel_rfl
 have h3:Tryz.prog.underlying 166=some (.struct (Tryz.prog.fieldsOf 166)):=by kernel_rfl
 have h4:(Tryz.prog.fieldsOf 166).toList = [{ name := "From",type:=3,offset:=0,embedded:=false,tag := "",pkgPath := "",byteOffset:=0 },{ name := "Letter",type:=3,offset:=1,embedded:=false,tag := "",pkgPath := "",byteOffset:=8 },{ name := "To",type:=3,offset:=2,embedded:=false,tag := "",pkgPath := "",byteOffset:=16 }]:=by kernel_rfl
 have h5:Tryz.prog.underlying 3=some (.int .i64):=Tryz.underlying3
 simp only[hx,hy,Sem.run_bind,run_eqGuard_agg _ _ _ _ _ _ _ h1,Result.andThen_ok,run_neq_struct,run_equalIn_agg _ _ _ _ _ h3 h2,h4,Op.eqFields]
 simp[Sem.run_bind,go_sem,h5]
 by_cases g0:u0=w0<;>by_cases g1:u1=w1<;>by_cases g2:u2=w2<;>simp[g0,g1,g2]
theorem X0c(o:Oper)(x y:Operand)(ho:o.op = .binOp .eql 166 x y 166)(u0 u1 u2 w0 w1 w2:Int):
  x09 Tryz.prog o x y (.agg #[.int .i64 u0,.int .i64 u1,.int .i64 u2]) (.agg #[.int .i64 w0,.int .i64 w1,.int .i64 w2]) (decide ((u0,u1,u2)=(w0,w1,w2))):=by
 intro ρ hx hy w
 unfold execOp
 rw[ho]
 have h1:Tryz.prog.eqGuardType Tryz.prog.depth 166=false:=by kernel_rfl
 have h2:Tryz.prog.stoodInHeld 166=false:=by kernel_rfl
 have h3:Tryz.prog.underlying 166=some (.struct (Tryz.prog.fieldsOf 166)):=by kernel_rfl
 have h4:(Tryz.prog.fieldsOf 166).toList = [{ name := "From",type:=3,offset:=0,embedded:=false,tag := "",pkgPath := "",byteOffset:=0 },{ name := "Letter",type:=3,offset:=1,embedded:=false,tag := "",pkgPath := "",byteOffset:=8 },{ name := "To",type:=3,offset:=2,embedded:=false,tag := "",pkgPath := "",byteOffset:=16 }]:=by kernel_rfl
 have h5:Tryz.prog.underlying 3=some (.int .i64):=Tryz.underlying3
 simp only[hx,hy,Sem.run_bind,run_eqGuard_agg _ _ _ _ _ _ _ h1,Result.andThen_ok,run_eql_struct,run_equalIn_agg _ _ _ _ _ h3 h2,h4,Op.eqFields]
 simp[Sem.run_bind,go_sem,h5]
 by_cases g0:u0=w0<;>by_cases g1:u1=w1<;>by_cases g2:u2=w2<;>simp[g0,g1,g2]
theorem H0b(h:Hp)(cs:List Value)(x:M0)(q:E1.R h cs x):E1.W h cs x []:=by
 obtain⟨x0,x1,x2,rfl,rfl,i0,i1,i2⟩:=N1 q
 exact w0k i0 i1 i2
theorem T0p(o:Oper)(x y:Operand)(ho:o.op = .binOp .eql 33 x y 33)(a:Option Addr)(n m:Nat):x09 Tryz.prog o x y (.slice a n m) (.slice none 0 0) a.isNone:=by
 intro ρ hx hy w
 unfold execOp
 rw[ho]
 have h5:Tryz.prog.underlying 33=some (.slice 3):=Tryz.underlying33
 have e1:∀(d:Nat),Sem.run Tryz.prog (Op.equalIn (d+1) 33 (.slice a n m) (.slice none 0 0)) w = .ok a.isNone w:=λd=>by
  unfold Op.equalIn
  cases a<;>simp[Sem.run_bind,run_underlying h5]
 have e2:=e1 9999
 simp[hx,hy,Sem.run_bind,go_sem,h5,eqGuard,binOp,Op.equal]
 rw[show Op.maxDepth=9999+1 from rfl,e2]
 rfl
end Go.Proofs.YtkjhghloldgioaaGreat
