/- Texts of the claim, joined: How two edges compare and others. -/
import Derived.Test.YthkpbcnhdhfifaaGreatPart21
import Derived.Test.YthkpbcnhdhfifaaGreatChecked
import Derived.Laws.StructEq
namespace Go.Proofs.YthkpbcnhdhfifaaGreat
set_option linter.all false
open Go.H
open IntKind (i64)
set_option maxRecDepth 10000
def z0p(o:Oper)(x y:Operand)(j:o.op = .binOp .neq 90 x y 90)(a b c w0 w1 d:Int): p0c Tryz.prog o x y (.agg #[.int .i64 a,.int .i64 b,.int .i64 c]) (.agg #[.int .i64 w0,.int .i64 w1,.int .i64 d]) (!(decide ((a,b,c)=(w0,w1,d)))):=by
 intro m k l w;unfold execOp;rw[j];have e:Tryz.prog.eqGuardType Tryz.prog.depth 90=false:=by kernel_rfl
 have f:Tryz.prog.stoodInHeld 90=false:=by kernel_rfl
 have g:Tryz.prog.underlying 90=some (.struct (Tryz.prog.fieldsOf 90)):=by kernel_rfl
 have h:(Tryz.prog.fieldsOf 90).toList = [{ name := "From",type:=3,offset:=0,embedded:=false,tag := "",pkgPath := "",byteOffset:=0 },{ name := "Letter",type:=3,offset:=1,embedded:=false,tag := "",pkgPath := "",byteOffset:=8 },{ name := "To",type:=3,offset:=2,embedded:=false,tag := "",pkgPath := "",byteOffset:=16 }]:=by kernel_rfl
 have i:Tryz.prog.underlying 3=some (.int .i64):=Tryz.underlying3;simp only[k,l,Sem.run_bind,run_eqGuard_agg _ _ _ _ _ _ _ e,Result.andThen_ok,run_neq_struct,run_equalIn_agg _ _ _ _ _ g f,h,Op.eqFields];simp[Sem.run_bind,go_sem,i];by_cases g0:a=w0<;>by_cases g1:b=w1<;>by_cases g2:c=d<;>simp[g0,g1,g2]
def R0b(o:Oper)(x y:Operand)(j:o.op = .binOp .eql 90 x y 90)(a b c w0 w1 d:Int): p0c Tryz.prog o x y (.agg #[.int .i64 a,.int .i64 b,.int .i64 c]) (.agg #[.int .i64 w0,.int .i64 w1,.int .i64 d]) (decide ((a,b,c)=(w0,w1,d))):=by
 intro m k l w;unfold execOp;rw[j];have e:Tryz.prog.eqGuardType Tryz.prog.depth 90=false:=by kernel_rfl
 have f:Tryz.prog.stoodInHeld 90=false:=by kernel_rfl
 have g:Tryz.prog.underlying 90=some (.struct (Tryz.prog.fieldsOf 90)):=by kernel_rfl
 have h:(Tryz.prog.fieldsOf 90).toList = [{ name := "From",type:=3,offset:=0,embedded:=false,tag := "",pkgPath := "",byteOffset:=0 },{ name := "Letter",type:=3,offset:=1,embedded:=false,tag := "",pkgPath := "",byteOffset:=8 },{ name := "To",type:=3,offset:=2,embedded:=false,tag := "",pkgPath := "",byteOffset:=16 }]:=by kernel_rfl
 have i:Tryz.prog.underlying 3=some (.int .i64):=Tryz.underlying3;simp only[k,l,Sem.run_bind,run_eqGuard_agg _ _ _ _ _ _ _ e,Result.andThen_ok,run_eql_struct,run_equalIn_agg _ _ _ _ _ g f,h,Op.eqFields];simp[Sem.run_bind,go_sem,i];by_cases g0:a=w0<;>by_cases g1:b=w1<;>by_cases g2:c=d<;>simp[g0,g1,g2]
def u09(h:Hp)(cs:List Value)(x:Q0)(q:E1.R h cs x):E1.W h cs x []:=by obtain⟨d,e,f,rfl,rfl,a,b,c⟩:=D2 q;exact v0s a b c
def D0B(o:Oper)(x y:Operand)(f:o.op = .binOp .eql 25 x y 25)(a:Option Addr)(n m:Nat):p0c Tryz.prog o x y (.slice a n m) (.slice none 0 0) a.isNone:=by
 intro i g h w;unfold execOp;rw[f];have b:Tryz.prog.underlying 25=some (.slice 3):=Tryz.underlying25;have c:∀(d:Nat),Sem.run Tryz.prog (Op.equalIn (d+1) 25 (.slice a n m) (.slice none 0 0)) w = .ok a.isNone w:=λd=>by unfold Op.equalIn;cases a<;>simp[Sem.run_bind,run_underlying b]
 have e:=c 9999;simp[g,h,Sem.run_bind,go_sem,b,eqGuard,binOp,Op.equal];rw[show Op.maxDepth=9999+1 from rfl,e];rfl
end Go.Proofs.YthkpbcnhdhfifaaGreat
