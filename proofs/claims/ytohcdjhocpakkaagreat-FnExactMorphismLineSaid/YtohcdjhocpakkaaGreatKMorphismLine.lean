/- MorphismLine, of the spec and of the code. -/
import Derived.Test.YtohcdjhocpakkaaGreatPart26
import Derived.Test.YtohcdjhocpakkaaGreatPart29
import Derived.Test.YtohcdjhocpakkaaGreatWmo2
namespace Go.Proofs.YtohcdjhocpakkaaGreat
open Go.H
set_option linter.unusedVariables false
def b02(x:H1):ByteArray:=(g8 x).getD (⟨#[]⟩:ByteArray)
theorem C0q{x:H1}(h:v01 x<=1048576):g8 x=some (b02 x)/\n9 x=some (b02 x):=by
 obtain⟨r,a⟩:=x
 have e:v01 (r,a)=a.length+V03 b03 a:=rfl
 have f:a.length<=140737488355328:=by omega
 have g:S3 a:=λw i=>by
  have c:=g0e (m:=b03) i
  have j:b03 w=w.length:=rfl
  omega
 obtain⟨b,c,d⟩:=l0o r a f g
 unfold b02
 rw[c,d]
 exact⟨rfl,rfl⟩
theorem R09(h:Hp)(cs:List Value)(x:H1)(c:D3.R h cs x)(b:v01 x<=1048576):
  Tr Tryz.prog 5 #[.agg cs.toArray] h λv a=>v = .string (b02 x)/\a=h :=
 L08 h cs x c _ (C0q b).1
theorem S09(h:Hp)(cs:List Value)(x:H1)(c:D3.R h cs x)(b:v01 x<=1048576):
  Tr Tryz.prog 7 #[.agg cs.toArray] h λv a=>v = .string (b02 x)/\a=h :=
 N08 h cs x c _ (C0q b).2
end Go.Proofs.YtohcdjhocpakkaaGreat
