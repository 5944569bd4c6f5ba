/- Part 32 of what the laws of this seat share: walks of functions, and plain laws. -/
import Derived.Deep.WholeRow
import Derived.Test.YtjkdnaljkdnomaaGreatDoorS5
set_option maxRecDepth 100000
set_option maxHeartbeats 400000
namespace Go.Proofs.YtjkdnaljkdnomaaGreatDoor
open Go.RowKit
section
variable {P:Program}
theorem Ty(w:World)(g o:Nat)(ty:TypeId)(cs:List Value)(d:TypeDesc)(hc:∀j v,cs[j]?=some v->w.cell? ⟨g,o+j,none⟩=some v)
  (hu:P.underlying ty=some d) (hd:(match d with| .struct _| .array _ _=>true|_=>false)=true) (hi:(P.info? ty).map (·.size)=some cs.length):
  (loadVar ty ⟨g,o,none⟩).run P w= .ok (.agg cs.toArray) w:=by
 have hl:=run_loadCells_list (P:=P) w ⟨g,o,none⟩ cs (λj v hv=>by rw [Ef];exact hc j v hv)
 cases hq:P.info? ty with
 |none=>simp [hq] at hi
 |some i=>
  have hs:i.size=cs.length:=by simpa [hq] using hi
  have hagg:(isAgg ty).run P w= .ok true w:=by
   unfold isAgg;rw [Sem.run_bind,run_underlying hu w]
   cases d<;>simp_all
  simp [loadVar,Sem.run_bind,hagg,sizeOf,typeInfo,hq,hs,hl]
theorem Tp{ops:Array Oper}{rest:List Oper}{o:Oper}{a:Act}{w:World}{Q:Exit->Act->World->Prop}(hgd:o.guard=none)(ty:TypeId)(x:Operand)(ho:o.op= .load ty x)
  (g of:Nat) (hx:a.eval x= .pointer (some ⟨g,of,none⟩)) (cs:List Value) (d:TypeDesc) (hc:∀j v,cs[j]?=some v->w.cell? ⟨g,of+j,none⟩=some v)
  (hu:P.underlying ty=some d) (hd:(match d with| .struct _| .array _ _=>true|_=>false)=true) (hi:(P.info? ty).map (·.size)=some cs.length)
  (h:wpList P ops Q rest (a.put o.dst (.agg cs.toArray)) w):wpList P ops Q (o::rest) a w:=
 wpList_plain hgd λK hK=>by
  unfold Oper.wp execOp;simp only [ho,hx,Instr.loadAt,Instr.sureAddr,Sem.run_bind,Sem.run_pure,Result.andThen_ok,Ty w g of ty cs d hc hu hd hi];exact hK _ _ h
def putAt(cur:List Value)(o:Nat)(vs:List Value):List Value:=cur.take o++vs++cur.drop (o+vs.length)
theorem Acy(cur:List Value)(o:Nat)(v:Value)(vs:List Value)(h:o<cur.length):putAt (cur.set o v) (o+1) vs=putAt cur o (v::vs):=by
 unfold putAt
 have h1:(cur.set o v).take (o+1)=cur.take o++ [v]:=by
  rw [List.take_set,List.take_succ_eq_append_getElem h];rw [List.set_append_right _ _ ji];simp [show o-min o cur.length=0 by omega]
 rw [h1,List.drop_set_of_lt j6];simp [show o+1+vs.length=o+(vs.length+1) by omega]
theorem run_storeCells_at(g o:Nat)(t:TypeId):∀(vs:List Value) (i:Nat) (cur:Array Value) (w:World),w.heap[g]?=some (.cells cur t (0,0))->o+i+vs.length<=cur.size->(∀v∈vs,v.oneCell'=true)->
  (storeCells ⟨g,o,none⟩ vs i).run P w= .ok () (w.setRow g (putAt cur.toList (o+i) vs).toArray)
 | [],i,cur,w,hg,hl,_=>by
  have h1:putAt cur.toList (o+i) []=cur.toList:=by simp [putAt]
  simp only [storeCells,h1,Array.toArray_toList,setRow_self w g cur t _ hg];rfl
 |v::rest,i,cur,w,hg,hl,h1=>by
  have hi:o+i<cur.size:=by simp at hl;omega
  have hcell:w.cell? ⟨g,o+i,none⟩=some cur[o+i]:=by simp [World.cell?,hg,hi]
  have hfro:w.frozen? ⟨g,o+i,none⟩=false:=by simp [World.frozen?,hg]
  have hst:(store ((⟨g,o,none⟩:Addr).add i) v).run P w= .ok () (w.setRow g (cur.setIfInBounds (o+i) v)):=by
   rw [Ef,run_store P w _ v _ (h1 v (by simp)),hcell];simp [hfro,setCell_eq_setRow w g (o+i) cur t (0,0) v hg]
  have ih:=run_storeCells_at g o t rest (i+1) (cur.setIfInBounds (o+i) v) (w.setRow g (cur.setIfInBounds (o+i) v)) (setRow_heap w g cur _ t _ hg) (by simp at hl⊢;omega) (λx hx=>h1 x (by simp [hx]));simp only [storeCells,Sem.run_bind,hst,Result.andThen_ok,ih,setRow_setRow]
  congr 3
  rw [Array.toList_setIfInBounds,<-Nat.add_assoc];exact Acy _ _ _ _ (by simpa using hi)
theorem Sq(w:World)(g o:Nat)(t ty:TypeId)(cur:Array Value)(vs:List Value)(hg:w.heap[g]?=some (.cells cur t (0,0)))(hi:(P.info? ty).map (·.size)=some vs.length)
  (hl:o+vs.length<=cur.size) (h1:∀v∈vs,v.oneCell'=true):
  (storeVar ty ⟨g,o,none⟩ (.agg vs.toArray)).run P w= .ok () (w.setRow g (putAt cur.toList o vs).toArray):=by
 have:=run_storeCells_at (P:=P) g o t vs 0 cur w hg j6 h1
 cases hq:P.info? ty with
 |none=>simp [hq] at hi
 |some i=>
  have hs:vs.length=i.size:=by simp [hq] at hi;omega
  simp [storeVar,sizeOf,typeInfo,hq,Value.cells,hs,this]
end
section
variable {P:Program} {ops:Array Oper} {Q:Exit->Act->World->Prop} {S:World->Prop} {z:Nat} {dst:Option Tmp} {ty:TypeId} {pos:String} {af:Array Edge} {gd:Option (Nat×Bool)} {i:Nat} {r:MO} {a:Act} {w:World}
theorem Ee{lt:TypeId}{x:Operand}(hi:ops[i]?=some ⟨dst,.load lt x,ty,pos,af,gd⟩)(hw:Region.wanted ⟨dst,.load lt x,ty,pos,af,gd⟩ (yielded ops a.tmps)=true)(g:Nat)(hx:a.eval x= .pointer (some ⟨g,0,none⟩))
  (t:TypeId) (cs:Array Value) (fr:Nat×Nat) (d:TypeDesc) (hg:∀w,S w->w.heap[g]?=some (.cells cs t fr)) (hu:P.underlying lt=some d) (hd:(match d with| .struct _| .array _ _=>true|_=>false)=true) (hs:(P.info? lt).map (·.size)=some cs.size)
  (h:Mix P ops Q S z r (a.put dst (.agg cs)) w):Mix P ops Q S z (.take i r) a w:=
 Bl hi hw (λw hS=>by
  unfold execOp
  simp only [hx,Instr.loadAt,Instr.sureAddr,Sem.run_bind,Sem.run_pure,Result.andThen_ok,run_loadVar_row w g t lt cs fr d (hg w hS) hu hd hs]) h
theorem mix_build{bt:TypeId}{ps:Array (Nat×Operand)}(hi:ops[i]?=some ⟨dst,.build bt ps,ty,pos,af,gd⟩)(hw:Region.wanted ⟨dst,.build bt ps,ty,pos,af,gd⟩ (yielded ops a.tmps)=true)(cells:Array Value)
  (hf:P.built bt (ps.map fun(i,x)=>(i,a.eval x)).toList=some cells) (h:Mix P ops Q S z r (a.put dst (.agg cells)) w):Mix P ops Q S z (.take i r) a w:=
 Bl hi hw (λw _=>by
  unfold execOp;simp only [Sem.run_bind,run_build w bt _ _ hf,Result.andThen_ok]
  rfl) h
theorem Aa5{o:Oper}{K:Act->World->Prop}(sty:TypeId)(x y:Operand)(ho:o.op= .store sty x y)
  (g of:Nat) (vs:List Value) (hx:a.eval x= .pointer (some ⟨g,of,none⟩)) (hy:a.eval y= .agg vs.toArray)
  (t:TypeId) (cur:Array Value) (hg:w.heap[g]?=some (.cells cur t (0,0))) (hi:(P.info? sty).map (·.size)=some vs.length) (hl:of+vs.length<=cur.size) (h1:∀v∈vs,v.oneCell'=true)
  (h:K (a.put o.dst undef) (w.setRow g (putAt cur.toList of vs).toArray)):o.wp P a w K Q:=by
 unfold Oper.wp execOp;simp only [ho,hx,hy,Instr.storeAt,Instr.sureAddr,Sem.run_bind,Sem.run_pure,Result.andThen_ok,Sq w g of t sty cur vs hg hi hl h1];exact h
end
theorem Keeps.setRow(w:World)(g:Nat)(cs:Array Value):Keeps (λk=>k=g) w (w.setRow g cs):=⟨rfl,rfl,rfl,by simp,λk _ hk=>setRow_other w g k _ hk⟩
section
variable {α:Type} {f:α->List Value} {size:Nat} (hf:∀x,(f x).length=size)
include hf
theorem Acx{L:List α}{k:Nat}{y:α}(hk:k<L.length)(tl:List Value):putAt (L.flatMap f++tl) (k*size) (f y)=(L.set k y).flatMap f++tl:=by
 induction L generalizing k with
 |nil=>simp at hk
 |cons a l ih=>
  cases k with
  |zero=>
   simp only [putAt,Nat.zero_mul,List.take_zero,List.nil_append,Nat.zero_add,List.flatMap_cons,List.set_cons_zero,List.append_assoc];rw [hf y,<-hf a,List.drop_left]
  |succ k=>
   have hk':k<l.length:=by simpa using hk
   have:=ih (k:=k) hk';simp only [putAt,List.flatMap_cons,List.set_cons_succ,List.append_assoc] at this⊢;rw [Nat.succ_mul,show k*size+size=(f a).length+k*size by rw [hf];omega,List.take_length_add_append,show(f a).length+k*size+(f y).length=(f a).length+(k*size+(f y).length) by omega,List.drop_length_add_append,List.append_assoc,this]
theorem Ab6{w:World}{e:TypeId}{g cap:Nat}{L:List α}{k:Nat}{y:α}(_:0<size)(h:w.ownsRow 0 e size (.slice (some ⟨g,0,none⟩) L.length cap) L.length (L.flatMap f))(hk:k<L.length):
  ∃cur,w.heap[g]?=some (.cells cur e (0,0))/\k*size+size<=cur.size/\
   (w.setRow g (putAt cur.toList (k*size) (f y)).toArray).ownsRow 0 e size (.slice (some ⟨g,0,none⟩) L.length cap) L.length ((L.set k y).flatMap f):=by
 obtain⟨h1,h2⟩:=h;rcases h2 with⟨h2,h3⟩|⟨g',cap',cur,hv,hb,hg,hn,hm,hcs,htk⟩
 ·simp at h2
 ·simp only [Value.slice.injEq,Option.some.injEq,Addr.mk.injEq,and_true,true_and] at hv;obtain⟨rfl,rfl⟩:=hv;have hlen:=Cs hf L;have hkk:k*size+size<=L.length*size:=by rw [<-Nat.succ_mul];exact Nat.mul_le_mul_right _ hk
  have hcn:L.length*size<=cap*size:=Nat.mul_le_mul_right _ hn;obtain⟨tl,htl⟩:∃tl,cur.toList=L.flatMap f++tl:=⟨cur.toList.drop (L.length*size),by rw [<-htk,List.take_append_drop]⟩;have hp:putAt cur.toList (k*size) (f y)=(L.set k y).flatMap f++tl:=by rw [htl];exact Acx hf hk tl
  have hl2:((L.set k y).flatMap f).length=L.length*size:=by rw [Cs hf,List.length_set]
  have hcl:cur.size=L.length*size+tl.length:=by rw [<-Array.length_toList,htl,List.length_append,hlen]
  refine⟨cur,hg,by omega,hl2,.inr ⟨g,cap,_,rfl,Nat.zero_le _,setRow_heap w g _ _ e _ hg,hn,hm, ?_, ?_⟩⟩
  ·rw [hp];simp [hl2];omega
  ·rw [hp,<-hl2,List.toList_toArray,List.take_left]
end
open Go.RowKit Go.IntWalk
structure Lf where
 is:Int
 b:List Int
def b48(b:List Int):List Value:=(List.range 48).map λi=> .int .u8 (b.getD i 0)
def Lf.cells(x:Lf):List Value:= .int .i64 x.is::b48 x.b
theorem Cw(b:List Int):(b48 b).length=48:=by simp [b48]
theorem Lf.Aj(x:Lf):x.cells.length=49:=by simp [Lf.cells,Cw]
theorem b48_one(b:List Int):∀v∈b48 b,v.oneCell'=true:=by
 intro v hv;obtain⟨i,_,rfl⟩:=List.mem_map.1 hv;rfl
theorem Lf.one(x:Lf):∀v∈x.cells,v.oneCell'=true:=by
 intro v hv;rcases List.mem_cons.1 hv with rfl|hv
 ·rfl
 ·exact b48_one _ v hv
def lf0:Lf:=⟨0, []⟩
structure Pd where
 l:List Lf
 sn:Int
 fl:Int
 dn:Bool
structure PadAt(w:World)(P:Nat)(v:Value)(p:Pd):Prop where
 blk:w.heap[P]?=some (.cells #[v,.int .i64 p.sn,.int .i64 p.fl,.bool p.dn] 96 (0,0))
 row:w.ownsRow 0 165 49 v p.l.length (p.l.flatMap Lf.cells)
 n:p.l.length<=20000
 sn0:0<=p.sn/\p.sn<=1000000
 fl0:0<=p.fl/\p.fl<=1000000
def PFoot(P:Nat)(v:Value)(k:Nat):Prop:=k=P\/v.ownBlock=some k
theorem PadAt.keeps{S:Nat->Prop}{w w':World}{P:Nat}{v:Value}{p:Pd}(h:PadAt w P v p)(hk:Keeps S w w')(hS:∀k,PFoot P v k->¬S k):PadAt w' P v p:=
 ⟨by rw [hk.block P (lt_of_block h.blk) (hS P (.inl rfl))];exact h.blk,hk.row h.row λk hk=>hS k (.inr hk),h.n,h.sn0,h.fl0⟩
theorem PadAt.shape{w:World}{P:Nat}{v:Value}{p:Pd}(h:PadAt w P v p):∃ad cap,v= .slice ad p.l.length cap/\p.l.length<=cap:=by
 obtain⟨ad,cap,hv,hc,_⟩:=Ae h.row;exact⟨ad,cap,hv,hc⟩
theorem PadAt.ne{w:World}{P:Nat}{v:Value}{p:Pd}(h:PadAt w P v p):v.ownBlock≠some P:=Ah h.row h.blk (by decide)
theorem PadAt.put{w:World}{P:Nat}{v:Value}{p q:Pd}(h:PadAt w P v p)(hl:q.l=p.l)(hs:0<=q.sn/\q.sn<=1000000)(hf:0<=q.fl/\q.fl<=1000000){w':World}(hk:Keeps (λk=>k=P) w w')
  (hb:w'.heap[P]?=some (.cells #[v,.int .i64 q.sn,.int .i64 q.fl,.bool q.dn] 96 (0,0))):PadAt w' P v q:=
 ⟨hb,by rw [hl];exact hk.row h.row λk hk e=>h.ne (by rw [hk,e]),by rw [hl];exact h.n,hs,hf⟩
def sinkR(p:Pd):Pd:={ p with fl:=if p.dn then p.fl else p.fl+1,dn:=true }
def Dm(p:Pd):Pd:=if p.sn=1 then sinkR { p with sn:=0 } else { p with sn:=if p.sn=0 then 0 else p.sn-1 }
def Ua(p:Pd):Int:=if p.dn then 15 else 0
theorem Rp(P:Nat)(v:Value)(p:Pd)(w:World)(h:PadAt w P v p):Calls Tryz.prog 42 #[(.pointer (some ⟨P,0,none⟩))] w λe w'=>e= .returned (.bool p.dn)/\w'=w:=by
 have c3:w.cell? ⟨P,3,none⟩=some (.bool p.dn):=Aa h.blk 3;obtain⟨l,sn,fl,dn⟩:=p;clear h;go_enter Tryz.func42,Tryz.ntmps42;exact jn
theorem Pv(P:Nat)(v:Value)(p:Pd)(w:World)(h:PadAt w P v p):Calls Tryz.prog 43 #[(.pointer (some ⟨P,0,none⟩))] w λe w'=>e= .returned (.int .i64 p.fl)/\w'=w:=by
 have c3:w.cell? ⟨P,2,none⟩=some (.int .i64 p.fl):=Aa h.blk 2;clear h;go_enter Tryz.func43,Tryz.ntmps43;exact jn
theorem Uc(P:Nat)(v:Value)(p:Pd)(w:World)(h:PadAt w P v p):Calls Tryz.prog 46 #[(.pointer (some ⟨P,0,none⟩))] w λe w'=>e= .returned (.int .i64 p.l.length)/\w'=w:=by
 obtain⟨ad,cap,rfl,_⟩:=h.shape;have c3:w.cell? ⟨P,0,none⟩=some (.slice ad p.l.length cap):=Aa h.blk 0;clear h;go_enter Tryz.func46,Tryz.ntmps46;exact jn
theorem Pt(P:Nat)(v:Value)(p:Pd)(w:World)(h:PadAt w P v p):Calls Tryz.prog 78 #[(.pointer (some ⟨P,0,none⟩))] w λe w'=>e= .returned (.int .i64 (Ua p))/\w'=w:=by
 have c3:w.cell? ⟨P,3,none⟩=some (.bool p.dn):=Aa h.blk 3;obtain⟨l,sn,fl,dn⟩:=p;clear h
 cases dn
 ·go_enter Tryz.func78,Tryz.ntmps78;exact jn
 ·go_enter Tryz.func78,Tryz.ntmps78;exact jn
theorem Kq(P:Nat)(v:Value)(p:Pd)(n:Int)(w:World)(h:PadAt w P v p):Calls Tryz.prog 83 #[(.pointer (some ⟨P,0,none⟩)),.int .i64 n] w λe w'=>e= .returned (.bool (decide (0<=n/\n<p.l.length)))/\w'=w:=by
 obtain⟨ad,cap,rfl,_⟩:=h.shape;have c3:w.cell? ⟨P,0,none⟩=some (.slice ad p.l.length cap):=Aa h.blk 0;obtain⟨m,hm⟩:=eX p.l.length;rw [hm] at c3⊢;clear h hm;by_cases h0:0<=n
 ·go_enter Tryz.func83,Tryz.ntmps83;go_wp2;go_ret;exact⟨by simp [h0],rfl⟩
 ·go_enter Tryz.func83,Tryz.ntmps83;go_wp2;go_ret;exact⟨by simp;omega,rfl⟩
def Kc(P:Nat)(v:Value)(p:Pd)(w w':World):Prop:=PadAt w' P v p/\Keeps (λk=>k=P) w w'
theorem Ab3(P:Nat)(v:Value)(p:Pd)(w:World)(h:PadAt w P v p)(hf:p.fl+1<=1000000):Calls Tryz.prog 100 #[(.pointer (some ⟨P,0,none⟩))] w λe w'=>e= .returned (.tuple #[])/\Kc P v (sinkR p) w w':=by
 have c2:w.cell? ⟨P,2,none⟩=some (.int .i64 p.fl):=Aa h.blk 2;have c3:w.cell? ⟨P,3,none⟩=some (.bool p.dn):=Aa h.blk 3;have f2:=Ab h.blk 2;have f3:=Ab h.blk 3;obtain⟨fl0,fl1⟩:=h.fl0;obtain⟨l,sn,fl,dn⟩:=p;simp only at c2 c3 fl0 fl1 hf
 cases dn
 ·have hend:Kc P v ⟨l,sn,fl+1,true⟩ w ((w.setCell ⟨P,2,none⟩ (.int .i64 (fl+1))).setCell ⟨P,3,none⟩ (.bool true)):=
   have hk:Keeps (λk=>k=P) w ((w.setCell ⟨P,2,none⟩ (.int .i64 (fl+1))).setCell ⟨P,3,none⟩ (.bool true)):=(Keeps.setCell (S:=λk=>k=P) _ _ _ rfl).trans (Keeps.setCell _ _ _ (.inl rfl))
   ⟨h.put (q:=⟨l,sn,fl+1,true⟩) rfl h.sn0 (by simp only;omega) hk (heap_setCell_same _ _ 3 _ _ _ (heap_setCell_same _ _ 2 _ _ _ h.blk)),hk⟩
  exact j4C
 ·have hend:Kc P v ⟨l,sn,fl,true⟩ w (w.setCell ⟨P,3,none⟩ (.bool true)):=
   have hk:Keeps (λk=>k=P) w (w.setCell ⟨P,3,none⟩ (.bool true)):=Keeps.setCell _ _ _ rfl
   ⟨h.put (q:=⟨l,sn,fl,true⟩) rfl h.sn0 h.fl0 hk (heap_setCell_same _ _ 3 _ _ _ h.blk),hk⟩
  exact j4C
theorem Nn(P:Nat)(v:Value)(p:Pd)(w:World)(h:PadAt w P v p)(hf:p.fl+1<=1000000):Calls Tryz.prog 79 #[(.pointer (some ⟨P,0,none⟩))] w λe w'=>e= .returned (.bool (!decide (p.sn=1)))/\Kc P v (Dm p) w w':=by
 have c1:w.cell? ⟨P,1,none⟩=some (.int .i64 p.sn):=Aa h.blk 1;have f1:=Ab h.blk 1;obtain⟨s0,s1⟩:=h.sn0;obtain⟨l,sn,fl,dn⟩:=p;simp only at c1 s0 s1 hf⊢;by_cases hs1:sn=1
 ·subst hs1;have hk1:Keeps (λk=>k=P) w (w.setCell ⟨P,1,none⟩ (.int .i64 0)):=Keeps.setCell _ _ _ rfl;have h1:PadAt (w.setCell ⟨P,1,none⟩ (.int .i64 0)) P v ⟨l,0,fl,dn⟩:=h.put (q:=⟨l,0,fl,dn⟩) rfl (by simp) h.fl0 hk1 (heap_setCell_same _ _ 1 _ _ _ h.blk);have hc:=Ab3 P v _ _ h1 hf;clear h h1;obtain⟨Hc,Hk1⟩:=hid2 hc hk1;clear hk1 hc;go_enter Tryz.func79,Tryz.ntmps79
  go_wp2_with (go_at_call 100;(with_reducible refine Hc.o.mono ?_);rintro e w1 ⟨rfl,hk2⟩;have Hk2:=Lib.hid hk2;clear hk2)
  go_ret;exact⟨rfl,Hk2.o.1,Hk1.o.trans (Hk2.o.2.mono λk _ e=> .inl e)⟩
 by_cases hs0:sn=0
 ·subst hs0
  have hend:Kc P v ⟨l,0,fl,dn⟩ w ((w.setCell ⟨P,1,none⟩ (.int .i64 (-1))).setCell ⟨P,1,none⟩ (.int .i64 0)):=
   have hk:Keeps (λk=>k=P) w ((w.setCell ⟨P,1,none⟩ (.int .i64 (-1))).setCell ⟨P,1,none⟩ (.int .i64 0)):=(Keeps.setCell (S:=λk=>k=P) _ _ _ rfl).trans (Keeps.setCell _ _ _ (.inl rfl))
   ⟨h.put (q:=⟨l,0,fl,dn⟩) rfl (by simp) h.fl0 hk (heap_setCell_same _ _ 1 _ _ _ (heap_setCell_same _ _ 1 _ _ _ h.blk)),hk⟩
  clear h;have Hend:=Lib.hid hend;clear hend;go_enter Tryz.func79,Tryz.ntmps79;go_wp2;go_ret;exact⟨rfl,Hend.o⟩
 ·obtain⟨N,hN⟩:=eX (sn-1);have hN0:0<N:=j8;have hN2:N<=1000000:=j8;have hR:Dm ⟨l,sn,fl,dn⟩=⟨l,N,fl,dn⟩:=by unfold Dm;simp only;rw [if_neg hs1,if_neg hs0,hN]
  have hend:Kc P v ⟨l,N,fl,dn⟩ w ((w.setCell ⟨P,1,none⟩ (.int .i64 N)).setCell ⟨P,1,none⟩ (.int .i64 N)):=
   have hk:Keeps (λk=>k=P) w ((w.setCell ⟨P,1,none⟩ (.int .i64 N)).setCell ⟨P,1,none⟩ (.int .i64 N)):=(Keeps.setCell (S:=λk=>k=P) _ _ _ rfl).trans (Keeps.setCell _ _ _ (.inl rfl))
   ⟨h.put (q:=⟨l,N,fl,dn⟩) rfl (by simp only;omega) h.fl0 hk (heap_setCell_same _ _ 1 _ _ _ (heap_setCell_same _ _ 1 _ _ _ h.blk)),hk⟩
  have q:wrap64 (sn-1)=N:=by rw [wrap64_in _ j6,hN]
  have q2:IntKind.i64.wrap (sn-1)=N:=by rw [i64_in _ j6,hN]
  rw [hR];clear h;have Hend:=Lib.hid hend;clear hend hN hR;go_enter Tryz.func79,Tryz.ntmps79;go_wp2;go_ret;exact⟨by simp [hs1],Hend.o⟩
theorem PadAt.Mc{w:World}{P g o cap:Nat}{p:Pd}(h:PadAt w P (.slice (some ⟨g,o,none⟩) p.l.length cap) p){k:Nat}{x:Lf}(hx:p.l[k]?=some x):
  ∀j u,x.cells[j]?=some u->w.cell? ⟨g,k*49+j,none⟩=some u:=by
 intro j u hj;have hj9:j<49:=by rw [<-Lf.Aj x];exact(List.getElem?_eq_some_iff.1 hj).1
 have:=h.row.cells (g:=g) rfl (k*49+j) u (by rw [flat_get Lf.Aj hx hj9];exact hj);rw [Ef] at this
 simpa using this
def Mm(w:World)(b:List Int)(is:Bool)(e:Ending)(w':World):Prop:=e= .returned (.tuple #[.agg (b48 b).toArray,.bool is])/\K0 w w'
theorem Cq{P:Program}{fn:Func}{p q:Tmp}{ty:TypeId}(h:fn.results= #[.cell p ty,.tmp q])(tmps:Array Value)(w:World)(g:Nat)(t:TypeId)(cs:Array Value)(fr:Nat×Nat)(d:TypeDesc)(u:Value)
  (hp:tmps.getD p undef= .pointer (some ⟨g,0,none⟩)) (hq:tmps.getD q undef=u) (hg:w.heap[g]?=some (.cells cs t fr))
  (hu:P.underlying ty=some d) (hd:(match d with| .struct _| .array _ _=>true|_=>false)=true) (hi:(P.info? ty).map (·.size)=some cs.size):
  (results fn tmps).run P w= .ok (.tuple #[.agg cs,u]) w:=by
 have hp':tmps[p]?.getD undef= .pointer (some ⟨g,0,none⟩):=by simpa using hp
 have hq':tmps[q]?.getD undef=u:=by simpa using hq
 simp [results,h,hp',hq',asAddr,run_loadVar_row w g t ty cs fr d hg hu hd hi]
theorem Bj:(Tryz.prog.info? 118).map (·.size)=some 48:=by kernel_rfl
theorem Em(b:List Int):(b48 b).toArray.all (·.oneCell')=true:=by simp [b48];intro i _;rfl
theorem Acz(P:Nat)(v:Value)(p:Pd)(n:Int)(w:World)(h:PadAt w P v p)(hn:¬(0<=n/\n<p.l.length)):Calls Tryz.prog 47 #[(.pointer (some ⟨P,0,none⟩)),.int .i64 n] w (Mm w [] false):=by
 have hc:=λW (hW:K0 w W)=>Kq P v p n W (h.keeps hW (by simp));rw [decide_eq_false hn] at hc;clear h;have Hc:=Lib.hid hc;clear hc;go_enter Tryz.func47,Tryz.ntmps47
 go_wp2_with (first|(go_at_call 83;(with_reducible refine(Hc.o _ (Keeps.alloc _ _)).mono ?_);rintro e w1 ⟨rfl,hw1⟩;have hb1:w1.heap[w.heap.size]?=some (.cells (b48 []).toArray 118 (0,0)):=j2b;have hk1:K0 w w1:=j2c;clear hw1;have Hb1:=Lib.hid hb1;have Hk1:=Lib.hid hk1;clear hb1 hk1)|(refine wpList_store_row rfl 118 (.tmp 4) (.tmp 25) rfl w.heap.size (b48 []).toArray rfl rfl 118 (b48 []).toArray Hb1.o Bj rfl (Em _) ?_))
 exact j4D
theorem Ad0(P:Nat)(v:Value)(p:Pd)(k:Nat)(x:Lf)(w:World)(h:PadAt w P v p)(hx:p.l[k]?=some x):Calls Tryz.prog 47 #[(.pointer (some ⟨P,0,none⟩)),.int .i64 k] w (Mm w (if x.is=0 then [] else x.b) (!decide (x.is=0))):=by
 have hkl:=(List.getElem?_eq_some_iff.1 hx).1;have hc:=λW (hW:K0 w W)=>Kq P v p k W (h.keeps hW (by simp));rw [decide_eq_true (show 0<=(k:Int)/\(k:Int)<p.l.length by omega)] at hc;obtain⟨ad,cap,rfl,hcap⟩:=h.shape
 have hown:∃g,ad=some ⟨g,0,none⟩:=by
  exact j4E
 obtain⟨g,rfl⟩:=hown;have hlc:=λW (hW:K0 w W)=>PadAt.Mc (h.keeps hW (by simp)) hx;have hblk:=λW (hW:K0 w W)=>(h.keeps hW (by simp)).blk;obtain⟨m,hm⟩:=eX p.l.length;rw [hm] at hkl h hcap hblk;have hkI:(k:Int)<(m:Int):=j8;have hnI:(0:Int)<=(k:Int):=j8;have hb48:∀j u,(b48 x.b)[j]?=some u->x.cells[1+j]?=some u:=λj u hj=>by rw [Nat.add_comm];exact hj
 by_cases hz:x.is=0
 ·clear h;obtain⟨Hc,Hlc,Hblk⟩:=hid3 hc hlc hblk;clear hblk hlc hc hx;go_enter Tryz.func47,Tryz.ntmps47
  go_wp2_with (first|(go_at_call 83;(with_reducible refine(Hc.o _ (Keeps.alloc _ _)).mono ?_);rintro e w1 ⟨rfl,hw1⟩;have hb1:w1.heap[w.heap.size]?=some (.cells (b48 []).toArray 118 (0,0)):=j2b;have hk1:K0 w w1:=j2c;clear hw1;have c0:=Aa (Hblk.o w1 hk1) 0;have c1:w1.cell? ⟨g,k*49+0,none⟩=some (.int .i64 0):=(Hlc.o w1 hk1 0 _ (by rw [<-hz];rfl));rw [Nat.add_zero] at c1;have Hb1:=Lib.hid hb1;have Hk1:=Lib.hid hk1;clear hb1 hk1)|(refine wpList_store_row rfl 118 (.tmp 4) (.tmp 25) rfl w.heap.size (b48 []).toArray rfl rfl 118 (b48 []).toArray Hb1.o Bj rfl (Em _) ?_))
  exact j4D
 ·have hzb:(x.is==0)=false:=beq_eq_false_iff_ne.2 hz;obtain⟨xi,hxi⟩:=eX x.is;rw [hxi] at hz hzb⊢;rw [if_neg hz,decide_eq_false hz];clear h;obtain⟨Hc,Hlc,Hblk⟩:=hid3 hc hlc hblk;clear hblk hlc hc hx;obtain⟨Hxi,Hb48⟩:=hid2 hxi hb48;clear hb48 hxi;go_enter Tryz.func47,Tryz.ntmps47
  go_wp2_with (first|(go_at_call 83;(with_reducible refine(Hc.o _ (Keeps.alloc _ _)).mono ?_);rintro e w1 ⟨rfl,hw1⟩;have hb1:w1.heap[w.heap.size]?=some (.cells (b48 []).toArray 118 (0,0)):=j2b;have hk1:K0 w w1:=j2c;clear hw1;have c0:=Aa (Hblk.o w1 hk1) 0;have c1:w1.cell? ⟨g,k*49+0,none⟩=some (.int .i64 xi):=(Hlc.o w1 hk1 0 _ (by rw [<-Hxi.o];rfl));rw [Nat.add_zero] at c1;have Hb1:=Lib.hid hb1;have Hk1:=Lib.hid hk1;clear hb1 hk1)|(refine wpList_store_row rfl 118 (.tmp 4) (.tmp 33) rfl w.heap.size (b48 x.b).toArray rfl rfl 118 (b48 []).toArray Hb1.o Bj rfl (Em _) ?_)|(refine Tp rfl 118 (.tmp 32) rfl g (k*49+1) rfl (b48 x.b) _ (λj u hj=>by rw [Nat.add_assoc];exact Hlc.o w1 Hk1.o (1+j) u (Hb48.o j u hj)) Tryz.underlying118 rfl Bj ?_))
  exact bodyPost_ret (Cq rfl _ _ w.heap.size 118 (b48 x.b).toArray _ _ _ rfl rfl (setRow_heap _ _ _ _ _ _ Hb1.o) Tryz.underlying118 rfl Bj) rfl ⟨rfl,Hk1.o.trans ((Keeps.setRow _ _ _).mono λk _ e=> .inr (Nat.le_of_eq e.symm))⟩
theorem Aco:(Tryz.prog.info? 165).map (·.size)=some 49:=by kernel_rfl
theorem PadAt.setLeaf{w:World}{P g cap k:Nat}{p:Pd}(h:PadAt w P (.slice (some ⟨g,0,none⟩) p.l.length cap) p)(hk:k<p.l.length)(y:Lf):
  ∃cur,w.heap[g]?=some (.cells cur 165 (0,0))/\k*49+y.cells.length<=cur.size/\PadAt (w.setRow g (putAt cur.toList (k*49) y.cells).toArray) P (.slice (some ⟨g,0,none⟩) p.l.length cap) { p with l:=p.l.set k y }/\
   Keeps (λi=>i=g) w (w.setRow g (putAt cur.toList (k*49) y.cells).toArray):=by
 obtain⟨cur,h1,h2,h3⟩:=Ab6 Lf.Aj j7 h.row hk (y:=y);have hne:g≠P:=λe=>h.ne (by rw [<-e];rfl);refine⟨cur,h1,by rw [Lf.Aj];exact h2,⟨?_, ?_, ?_,h.sn0,h.fl0⟩,Keeps.setRow _ _ _⟩
 ·rw [setRow_other _ _ _ _ (Ne.symm hne)];exact h.blk
 ·simp only [List.length_set];exact h3
 ·simp only [List.length_set];exact h.n
def Aa1(P:Nat)(v:Value)(p:Pd)(w w':World):Prop:=PadAt w' P v p/\Keeps (PFoot P v) w w'
theorem padInk_ok(P:Nat)(v:Value)(p:Pd)(k:Nat)(x:Lf)(b:List Int)(w:World)(h:PadAt w P v p)(hf:p.fl+1<=1000000)(hd:p.dn=false)(hx:p.l[k]?=some x)(hx0:x.is=0):
  Calls Tryz.prog 56 #[(.pointer (some ⟨P,0,none⟩)),.int .i64 k,.agg (b48 b).toArray] w λe w'=>e= .returned (.int .i64 (if p.sn=1 then 15 else 0))/\Aa1 P v (Dm { p with l:=p.l.set k ⟨1,b⟩ }) w w':=by
 have hkl:=(List.getElem?_eq_some_iff.1 hx).1;have hr:=λW (hW:K0 w W)=>Pt P v p W (h.keeps hW (by simp));have hc:=λW (hW:K0 w W)=>Kq P v p k W (h.keeps hW (by simp));rw [decide_eq_true (show 0<=(k:Int)/\(k:Int)<p.l.length by omega)] at hc;have hr0:Ua p=0:=by unfold Ua;rw [hd];rfl
 rw [hr0] at hr;obtain⟨ad,cap,rfl,hcap⟩:=h.shape
 have hown:∃g,ad=some ⟨g,0,none⟩:=by
  exact j4E
 obtain⟨g,rfl⟩:=hown;obtain⟨q,hq⟩:=eX (Dm { p with l:=p.l.set k ⟨1,b⟩ });rw [hq];obtain⟨wb,hwb⟩:=eY (w.alloc (.cells (b48 b).toArray 118));have hkb:K0 w wb:=by rw [hwb];exact Keeps.alloc _ _
 have hbb:wb.heap[w.heap.size]?=some (.cells (b48 b).toArray 118 (0,0)):=by rw [hwb];exact heap_alloc_new w _
 have hb:=h.keeps hkb (by simp);have c0:=Aa hb.blk 0;have lt:=lt_of_block hb.blk;have cx:wb.cell? ⟨g,k*49+0,none⟩=some (.int .i64 0):=PadAt.Mc hb hx 0 _ (by rw [<-hx0];rfl);rw [Nat.add_zero] at cx;obtain⟨m,hm⟩:=eX p.l.length;rw [hm] at hkl h hcap c0;have hkI:(k:Int)<(m:Int):=j8;have hnI:(0:Int)<=(k:Int):=j8;clear h;have Hc:=Lib.hid hc;clear hc hx;have Hr:=Lib.hid hr;clear hr hd;obtain⟨Hwb,Hkb,Hbb,Hb,Hm,Hq⟩:=hid6 hwb hkb hbb hb hm hq;clear hq hm hb hbb hkb hwb;go_enter Tryz.func56,Tryz.ntmps56
 go_wp2_with (first|(go_at_call 78;(with_reducible refine(Hr.o _ (Keeps.alloc _ _)).mono ?_);rintro e w1 ⟨rfl,hw1⟩;rw [<-Hwb.o] at hw1;subst w1)|(go_at_call 83;(with_reducible refine(Hc.o wb Hkb.o).mono ?_);rintro e w1 ⟨rfl,hw1⟩;subst w1))
 refine Cm (λW=>(W.cell? ⟨P,0,none⟩=some (.slice (some ⟨g,0,none⟩) m cap)/\P<W.heap.size)/\W.heap[w.heap.size]?=some (.cells (b48 b).toArray 118 (0,0))/\W=wb.drew) 8 (.take 0 (.take 1 (.take 2 (.take 3 (.take 4 (.take 5 (.take 6 (.take 7 (.move 8 .done))))))))) j9 j9 ?_ ?_
 ·exact⟨⟨c0,lt⟩,Hbb.o,rfl⟩
 intro w1 hs1 hk1;have hp1:PadAt w1 P (.slice (some ⟨g,0,none⟩) p.l.length cap) p:=by rw [hs1.2.2];exact Hb.o.keeps (Keeps.drew (S:=λ_=>False) _) (by simp)
 have hkw1:K0 w w1:=by rw [hs1.2.2];exact Keeps.nt Hkb.o (Keeps.drew _)
 obtain⟨cur,hcur,hlc,hp2,hk2⟩:=hp1.setLeaf (k:=k) (by rw [Hm.o];exact hkl) ⟨1,b⟩;clear hs1 hk1 hp1;obtain⟨Hkw1,Hcur,Hlc,Hp2,Hk2⟩:=hid5 hkw1 hcur hlc hp2 hk2;clear hk2 hp2 hlc hcur hkw1;refine jR ?_;refine Ee rfl (by rfl) w.heap.size rfl 118 (b48 b).toArray _ _ (λw h=>h.2.1) Tryz.underlying118 rfl Bj ?_;refine mix_build rfl (by rfl) (Lf.cells ⟨1,b⟩).toArray j9 ?_;refine jR ?_;refine Cu rfl (λK hK=> ?_);refine Aa5 165 (.tmp 33) (.tmp 32) rfl g (k*49) (Lf.cells ⟨1,b⟩) rfl rfl 165 cur Hcur.o (by rw [Aco,Lf.Aj]) Hlc.o (Lf.one _) ?_;refine hK.out _ _ ?_;clear hK K;obtain⟨W2,hW2⟩:=eY (w1.setRow g (putAt cur.toList (k*49) (Lf.cells ⟨1,b⟩)).toArray);rw [<-hW2];have hp3:=Hp2.o;have hk3:=Hk2.o;rw [<-hW2] at hp3 hk3;clear hW2;have hst:=Nn P _ _ W2 hp3 hf;clear hp3;obtain⟨Hk3,Hst⟩:=hid2 hk3 hst;clear hst hk3;refine Aq ?_
 go_wp2_with (go_at_call 79;(with_reducible refine Hst.o.mono ?_);rintro e w4 ⟨rfl,hk4⟩;have Hk4:=Lib.hid hk4;clear hk4)
 all_goals
  have hkf:Keeps (PFoot P (.slice (some ⟨g,0,none⟩) p.l.length cap)) w w4:=
   (Hkw1.o.mono λ_ _ h=>h.elim).trans ((Hk3.o.mono λi _ e=> .inl (.inr (by rw [e];rfl))).trans (Hk4.o.2.mono λi _ e=> .inl (.inl (.inl e))))
  go_ret;exact⟨rfl,by rw [<-Hq.o];exact Hk4.o.1,hkf⟩
end Go.Proofs.YtjkdnaljkdnomaaGreatDoor
