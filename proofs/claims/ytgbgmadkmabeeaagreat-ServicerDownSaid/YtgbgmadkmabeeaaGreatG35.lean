/- Part 35 of what the laws of this seat share: walks of functions, and plain laws. -/
import Derived.Lib.Strings
import Derived.Test.YtgbgmadkmabeeaaGreatG7
set_option maxRecDepth 100000
set_option maxHeartbeats 400000
namespace Go.Proofs.YtgbgmadkmabeeaaGreat
open Go.RowKit
theorem Uf(L:List Int):∀r:ByteArray,(L.foldl (λr n=>r.push (UInt8.ofNat n.toNat)) r).data.toList=r.data.toList++L.map λn=>UInt8.ofNat n.toNat:=by
 induction L with
 |nil=>intro r;simp
 |cons a L ih=>intro r;rw [List.foldl_cons,ih];simp [ByteArray.push]
theorem strOf_inj{X Y:List Int}(hX:∀z∈X,0<=z/\z<=255)(hY:∀z∈Y,0<=z/\z<=255)(h:(strOf X).toList=(strOf Y).toList):X=Y:=by
 have h1:X.map (λn=>UInt8.ofNat n.toNat)=Y.map λn=>UInt8.ofNat n.toNat:=by
  have a:=Uf X ByteArray.empty;have b:=Uf Y ByteArray.empty;rw [Lib.toList_data,Lib.toList_data] at h;unfold strOf at h;rw [h,b] at a
  simpa using a.symm
 clear h
 induction X generalizing Y with
 |nil=>cases Y with
  |nil=>rfl
  |cons _ _=>simp at h1
 |cons x X ih=>cases Y with
  |nil=>simp at h1
  |cons y Y=>
   rw [List.map_cons,List.map_cons] at h1;obtain⟨h2,h3⟩:=List.cons.inj h1;have hx:=hX x (by simp);have hy:=hY y (by simp)
   have h4:x=y:=by
    have h5:=congrArg UInt8.toNat h2;simp only [UInt8.toNat_ofNat'] at h5;omega
   rw [h4,ih (λz hz=>hX z (by simp [hz])) (λz hz=>hY z (by simp [hz])) h3]
theorem Vl(a1 a2:Option Addr)(c1 c2:Nat)(X Y:List Int)(w:World)(h1:Reads w 1 (.slice a1 X.length c1) X.length (X.flatMap u8c))(h2:Reads w 1 (.slice a2 Y.length c2) Y.length (Y.flatMap u8c))(hX:∀z∈X,0<=z/\z<=255)(hY:∀z∈Y,0<=z/\z<=255):
  Calls Tryz.prog 61 #[.slice a1 X.length c1,.slice a2 Y.length c2] w λe w'=>e= .returned (.bool (decide (X=Y)))/\w=w':=by
 have q1:=Vi (src:=24) (dst:=9) Tryz.underlying24 Tryz.underlying5 Tryz.underlying9 h1;have q2:=Vi (src:=24) (dst:=9) Tryz.underlying24 Tryz.underlying5 Tryz.underlying9 h2
 have he:decide (X=Y)=((strOf X).toList==(strOf Y).toList):=by
  by_cases h:X=Y
  ·simp [h]
  ·rw [decide_eq_false h];exact(beq_eq_false_iff_ne.2 λe=>h (strOf_inj hX hY e)).symm
 rw [he];obtain⟨s1,hs1⟩:=eX (strOf X);obtain⟨s2,hs2⟩:=eX (strOf Y);rw [hs1] at q1⊢;rw [hs2] at q2⊢;clear he hs1 hs2;obtain⟨H1,H2⟩:=hid2 h1 h2;clear h2 h1;go_enter Tryz.func61,Tryz.ntmps61;exact jk
end Go.Proofs.YtgbgmadkmabeeaaGreat
