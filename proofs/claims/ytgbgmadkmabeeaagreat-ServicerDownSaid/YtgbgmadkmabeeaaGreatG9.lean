/- Part 9 of what the laws of this seat share: walks of functions, and plain laws. -/
import Derived.Shelf.Bits.Mul64
import Derived.Shelf.Spec.BitsCarry
import Derived.Test.YtgbgmadkmabeeaaGreatG1
set_option maxRecDepth 100000
set_option maxHeartbeats 400000
namespace Go.Proofs.YtgbgmadkmabeeaaGreat
open Go.Shelf Go.RowKit
def Abk:Go.Shelf.Ren:=⟨fun|264=>296|n=>n,fun|53=>145|46=>38|n=>n,fun|n=>n⟩
theorem lays264:Go.Proofs.Lays.n264 Tryz.prog Abk:={
 mixed:=by kernel_rfl
 f264:=Tryz.func296.trans (congrArg some (by kernel_rfl))
 t46:=Tryz.underlying38
 a46:=Tryz.isAgg38
 z46:=Tryz.sizeOf38
 v46:=Tryz.zeroValue38
 t53:=Tryz.underlying145
 a53:=Tryz.isAgg145
 z53:=Tryz.sizeOf145
 v53:=Tryz.zeroValue145 }
theorem Xx(x y:Int)(hx:0<=x)(hx':x<18446744073709551616)(hy:0<=y)(hy':y<18446744073709551616)(w:World):
  Calls Tryz.prog 296 #[.int .u64 x,.int .u64 y] w λe w'=>e= .returned (.tuple #[.int .u64 (x*y / 18446744073709551616),.int .u64 (x*y % 18446744073709551616)])/\w=w':=by
 obtain⟨a,rfl⟩:=Int.eq_ofNat_of_zero_le hx;obtain⟨b,rfl⟩:=Int.eq_ofNat_of_zero_le hy;refine(Any.bits_Mul64 lays264 a b j6 j6 w).mono ?_;rintro e w' ⟨rfl,rfl⟩;refine⟨?_,rfl⟩
 congr 4
theorem add64_run(x y:Int)(hx:0<=x)(hx':x<18446744073709551616)(hy:0<=y)(hy':y<18446744073709551616)(w:World):
  (callFunc 297 #[.int .u64 x,.int .u64 y,.int .u64 0]).run Tryz.prog w= .ok (.value (.tuple #[.int .u64 ((x+y) % 18446744073709551616),.int .u64 ((x+y) / 18446744073709551616)])) w:=by
 obtain⟨a,rfl⟩:=Int.eq_ofNat_of_zero_le hx;obtain⟨b,rfl⟩:=Int.eq_ofNat_of_zero_le hy;have h:=run_add64 (P:=Tryz.prog) a b 0 j6 j6 j6 j6 w;rw [run_callFunc_extern Tryz.func297 j9 j9 j9 (e:=add64Entry) j9];rw [h];simp only [Result.andThen,Int.add_zero]
end Go.Proofs.YtgbgmadkmabeeaaGreat
