/- Texts of the claim, joined: How two edges compare and others. -/
import Derived.Test.YthakcafglempaaaGreatPart23
import Derived.Test.YthakcafglempaaaGreatChecked
import Derived.Laws.StructEq
namespace Go.Proofs.YthakcafglempaaaGreat
set_option linter.all false
open Go.H
open IntKind (i64)
set_option maxRecDepth 10000
def c0o(o:Oper)(x y:Operand)(j:o.op = .binOp .neq 83 x y 83)(a b c w0 w1 d:Int): q0b Tryz.prog o x y (.agg #[.int .i64 a,.int .i64 b,.int .i64 c]) (.agg #[.int .i64 w0,.int .i64 w1,.int .i64 d]) (!(decide ((a,b,c)=(w0,w1,d)))):=by
 intro m k l w;unfold execOp;rw[j];have e:Tryz.prog.eqGuardType Tryz.prog.depth 83=false:=by kernel_rfl
 have f:Tryz.prog.stoodInHeld 83=false:=by kernel_rfl
 have g:Tryz.prog.underlying 83=some (.struct (Tryz.prog.fieldsOf 83)):=by kernel_rfl
 have h:(Tryz.prog.fieldsOf 83).toList = [{ name := "From",type:=3,offset:=0,embedded:=false,tag := "",pkgPath := "",byteOffset:=0 },{ name := "Letter",type:=3,offset:=1,embedded:=false,tag := "",pkgPath := "",byteOffset:=8 },{ name := "To",type:=3,offset:=2,embedded:=false,tag := "",pkgPath := "",byteOffset:=16 }]:=by kernel_rfl
 have i:Tryz.prog.underlying 3=some (.int .i64):=Tryz.underlying3;simp only[k,l,Sem.run_bind,run_eqGuard_agg _ _ _ _ _ _ _ e,Result.andThen_ok,run_neq_struct,run_equalIn_agg _ _ _ _ _ g f,h,Op.eqFields];simp[Sem.run_bind,go_sem,i];by_cases g0:a=w0<;>by_cases g1:b=w1<;>by_cases g2:c=d<;>simp[g0,g1,g2]
def j0d(o:Oper)(x y:Operand)(j:o.op = .binOp .eql 83 x y 83)(a b c w0 w1 d:Int): q0b Tryz.prog o x y (.agg #[.int .i64 a,.int .i64 b,.int .i64 c]) (.agg #[.int .i64 w0,.int .i64 w1,.int .i64 d]) (decide ((a,b,c)=(w0,w1,d))):=by
 intro m k l w;unfold execOp;rw[j];have e:Tryz.prog.eqGuardType Tryz.prog.depth 83=false:=by kernel_rfl
 have f:Tryz.prog.stoodInHeld 83=false:=by kernel_rfl
 have g:Tryz.prog.underlying 83=some (.struct (Tryz.prog.fieldsOf 83)):=by kernel_rfl
 have h:(Tryz.prog.fieldsOf 83).toList = [{ name := "From",type:=3,offset:=0,embedded:=false,tag := "",pkgPath := "",byteOffset:=0 },{ name := "Letter",type:=3,offset:=1,embedded:=false,tag := "",pkgPath := "",byteOffset:=8 },{ name := "To",type:=3,offset:=2,embedded:=false,tag := "",pkgPath := "",byteOffset:=16 }]:=by kernel_rfl
 have i:Tryz.prog.underlying 3=some (.int .i64):=Tryz.underlying3;simp only[k,l,Sem.run_bind,run_eqGuard_agg _ _ _ _ _ _ _ e,Result.andThen_ok,run_eql_struct,run_equalIn_agg _ _ _ _ _ g f,h,Op.eqFields];simp[Sem.run_bind,go_sem,i];by_cases g0:a=w0<;>by_cases g1:b=w1<;>by_cases g2:c=d<;>simp[g0,g1,g2]
def U08(h:Hp)(cs:List Value)(x:O0)(q:C1.R h cs x):C1.W h cs x []:=by obtain⟨d,e,f,rfl,rfl,a,b,c⟩:=Q1 q;exact c0r a b c
def n0A(o:Oper)(x y:Operand)(f:o.op = .binOp .eql 24 x y 24)(a:Option Addr)(n m:Nat):q0b Tryz.prog o x y (.slice a n m) (.slice none 0 0) a.isNone:=by
 intro i g h w;unfold execOp;rw[f];have b:Tryz.prog.underlying 24=some (.slice 3):=Tryz.underlying24;have c:∀(d:Nat),Sem.run Tryz.prog (Op.equalIn (d+1) 24 (.slice a n m) (.slice none 0 0)) w = .ok a.isNone w:=λd=>by unfold Op.equalIn;cases a<;>simp[Sem.run_bind,run_underlying b]
 have e:=c 9999;simp[g,h,Sem.run_bind,go_sem,b,eqGuard,binOp,Op.equal];rw[show Op.maxDepth=9999+1 from rfl,e];rfl
end Go.Proofs.YthakcafglempaaaGreat
