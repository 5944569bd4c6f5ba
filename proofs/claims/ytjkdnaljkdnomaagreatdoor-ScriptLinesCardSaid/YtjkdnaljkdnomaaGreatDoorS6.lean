/- Part 6 of what the laws of this seat share: walks of functions, and plain laws. -/
import Derived.Shelf.Bits.Mul64
import Derived.Shelf.Spec.BitsCarry
import Derived.Test.YtjkdnaljkdnomaaGreatDoorS1
set_option maxRecDepth 100000
set_option maxHeartbeats 400000
namespace Go.Proofs.YtjkdnaljkdnomaaGreatDoor
open Go.Shelf Go.RowKit
def Abf:Go.Shelf.Ren:=⟨fun|264=>187|n=>n,fun|53=>156|46=>183|n=>n,fun|n=>n⟩
theorem lays264:Go.Proofs.Lays.n264 Tryz.prog Abf:={
 mixed:=by kernel_rfl
 f264:=Tryz.func187.trans (congrArg some (by kernel_rfl))
 t46:=Tryz.underlying183
 a46:=Tryz.isAgg183
 z46:=Tryz.sizeOf183
 v46:=Tryz.zeroValue183
 t53:=Tryz.underlying156
 a53:=Tryz.isAgg156
 z53:=Tryz.sizeOf156
 v53:=Tryz.zeroValue156 }
theorem Xh(x y:Int)(hx:0<=x)(hx':x<18446744073709551616)(hy:0<=y)(hy':y<18446744073709551616)(w:World):
  Calls Tryz.prog 187 #[.int .u64 x,.int .u64 y] w λe w'=>e= .returned (.tuple #[.int .u64 (x*y / 18446744073709551616),.int .u64 (x*y % 18446744073709551616)])/\w=w':=by
 obtain⟨a,rfl⟩:=Int.eq_ofNat_of_zero_le hx;obtain⟨b,rfl⟩:=Int.eq_ofNat_of_zero_le hy;refine(Any.bits_Mul64 lays264 a b j6 j6 w).mono ?_;rintro e w' ⟨rfl,rfl⟩;refine⟨?_,rfl⟩
 congr 4
theorem add64_run(x y:Int)(hx:0<=x)(hx':x<18446744073709551616)(hy:0<=y)(hy':y<18446744073709551616)(w:World):
  (callFunc 188 #[.int .u64 x,.int .u64 y,.int .u64 0]).run Tryz.prog w= .ok (.value (.tuple #[.int .u64 ((x+y) % 18446744073709551616),.int .u64 ((x+y) / 18446744073709551616)])) w:=by
 obtain⟨a,rfl⟩:=Int.eq_ofNat_of_zero_le hx;obtain⟨b,rfl⟩:=Int.eq_ofNat_of_zero_le hy;have h:=run_add64 (P:=Tryz.prog) a b 0 j6 j6 j6 j6 w;rw [run_callFunc_extern Tryz.func188 j9 j9 j9 (e:=add64Entry) j9];rw [h];simp only [Result.andThen,Int.add_zero]
end Go.Proofs.YtjkdnaljkdnomaaGreatDoor
