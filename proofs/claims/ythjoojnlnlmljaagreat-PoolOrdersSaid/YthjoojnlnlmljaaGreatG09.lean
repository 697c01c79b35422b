/- Turns: bits.RotateLeft64 and 32, the reference's Turn64 and turn. No condition. -/
import Derived.Test.YthjoojnlnlmljaaGreatG02
import Derived.Test.YthjoojnlnlmljaaGreatG08
import Derived.Lib.SmallJoins
import Derived.Lib.EndianBits
import Derived.Lib.Hide
import Derived.BigQuiet
import Derived.Deep.QuietTactic
import Derived.Test.YthjoojnlnlmljaaGreatG06
set_option linter.all false
set_option maxRecDepth 100000
set_option maxHeartbeats 8000000
namespace Go.Proofs.YthjoojnlnlmljaaGreat
open Go.ChangeShapes Go.WideShapes Go.ChangeAt Go.RowKit Go.Joins
open Go.Lib (hid)
attribute [local go_sem] Oper.semAt_some
theorem qg9 (j r:Nat)(o:r≤j)(x:Int):x*2^(j - r)%2^j=x%2^r*2^(j - r):=by
 have e:(2:Int)^j=2^r*2^(j - r):=by rw[←Int.pow_add,show r+(j - r)=j by omega]
 rw[e,Int.mul_comm x,Int.mul_comm (2^r),Int.mul_emod_mul_of_pos _ _ (Int.pow_pos (by decide)),Int.mul_comm]
theorem qcQ (k:IntKind)(j r:Nat)(Y:j≤k.bits)(G: ∀n:Int,0≤n→n<2^j→k.wrap n=n)(U: ∀z,k.wrap z=z%2^j)(D:r≤j)(x:Int)(o:0≤x∧x<2^j):
  bits .or k (x/2^r) (k.wrap (x*2^(j - r)))=Q6 j r x:=by
 have q:(0:Int)<2^r:=Int.pow_pos (by decide);have J:(0:Int)<2^(j - r):=Int.pow_pos (by decide);have e:(2:Int)^j=2^r*2^(j - r):=by rw[←Int.pow_add,show r+(j - r)=j by omega]
 have V:=ZP D o;have I:=Int.emod_nonneg x (Int.ne_of_gt q);have O:=Int.ediv_nonneg o.1 (Int.le_of_lt q);have d1:x/2^r<2^(j - r):=Int.ediv_lt_of_lt_mul q (by rw[Int.mul_comm,←e];exact o.2);have X:0≤x%2^r*2^(j - r):=Int.mul_nonneg I (Int.le_of_lt J);unfold Q6 at V⊢;rw[U,qg9 j r D];exact bits_join_low k j Y G (j - r) _ _ O d1 (by omega) X (Int.mul_emod_left _ _) (by omega)
theorem qdI (k:IntKind)(j r:Nat)(I:j≤k.bits)(o: ∀n:Int,0≤n→n<2^j→k.wrap n=n)(q: ∀z,k.wrap z=z%2^j)(G:r≤j)(x:Int)(D:0≤x∧x<2^j):
  bits .or k (k.wrap (x*2^(j - r))) (x/2^r)=Q6 j r x:=by
 rw[←qcQ k j r I o q G x D];simp only[bits,BitVec.or_comm]
theorem JQ (n:Int)(q:0≤n)(o:n<2^32):IntKind.u32.wrap n=n:=by rw[IntKind.wrap_u32];omega
theorem ji (r:Nat)(q:r≤64)(x:Int)(o:0≤x∧x<2^64):bits .or .u64 (x/2^r) (IntKind.u64.wrap (x*2^(64 - r)))=Q6 64 r x:=qcQ .u64 64 r (by decide) wraps_u64 (fun z=>IntKind.wrap_u64 z) q x o
theorem Ze (r:Nat)(q:r≤64)(x:Int)(o:0≤x∧x<2^64):bits .or .u64 (IntKind.u64.wrap (x*2^(64 - r))) (x/2^r)=Q6 64 r x:=qdI .u64 64 r (by decide) wraps_u64 (fun z=>IntKind.wrap_u64 z) q x o
theorem jj (r:Nat)(q:r≤32)(x:Int)(o:0≤x∧x<2^32):bits .or .u32 (x/2^r) (IntKind.u32.wrap (x*2^(32 - r)))=Q6 32 r x:=qcQ .u32 32 r (by decide) JQ (fun z=>IntKind.wrap_u32 z) q x o
theorem Zf (r:Nat)(q:r≤32)(x:Int)(o:0≤x∧x<2^32):bits .or .u32 (IntKind.u32.wrap (x*2^(32 - r))) (x/2^r)=Q6 32 r x:=qdI .u32 32 r (by decide) JQ (fun z=>IntKind.wrap_u32 z) q x o
theorem Ys {k:IntKind}{a b:Int}(h:a=b):Ending.returned (.int k a)= .returned (.int k b):=by rw[h]
theorem qhg (x:Int)(w:World)(o:0≤x∧x<2^64):Calls Tryz.prog 238 #[.int .u64 x,.int .i64 (-32)] w fun e w'=>e= .returned (.int .u64 (Q6 64 32 x))∧w'=w:=by
 have q:=hid (Ys (k:= .u64) (Ze 32 (by decide) x o));have D:bits BinOp.and IntKind.u64 (IntKind.u64.wrap (-32)) 63=32:=by decide
 go_enter Tryz.func238,Tryz.ntmps238
 go_wp2
 go_ret
 exact⟨q.out,rfl⟩
theorem qhh (x:Int)(w:World)(o:0≤x∧x<2^64):Calls Tryz.prog 238 #[.int .u64 x,.int .i64 (-24)] w fun e w'=>e= .returned (.int .u64 (Q6 64 24 x))∧w'=w:=by
 have q:=hid (Ys (k:= .u64) (Ze 24 (by decide) x o));have D:bits BinOp.and IntKind.u64 (IntKind.u64.wrap (-24)) 63=40:=by decide
 go_enter Tryz.func238,Tryz.ntmps238
 go_wp2
 go_ret
 exact⟨q.out,rfl⟩
theorem qhi (x:Int)(w:World)(o:0≤x∧x<2^64):Calls Tryz.prog 238 #[.int .u64 x,.int .i64 (-16)] w fun e w'=>e= .returned (.int .u64 (Q6 64 16 x))∧w'=w:=by
 have q:=hid (Ys (k:= .u64) (Ze 16 (by decide) x o));have D:bits BinOp.and IntKind.u64 (IntKind.u64.wrap (-16)) 63=48:=by decide
 go_enter Tryz.func238,Tryz.ntmps238
 go_wp2
 go_ret
 exact⟨q.out,rfl⟩
theorem qhf (x:Int)(w:World)(o:0≤x∧x<2^64):Calls Tryz.prog 238 #[.int .u64 x,.int .i64 (-63)] w fun e w'=>e= .returned (.int .u64 (Q6 64 63 x))∧w'=w:=by
 have q:=hid (Ys (k:= .u64) (Ze 63 (by decide) x o));have D:bits BinOp.and IntKind.u64 (IntKind.u64.wrap (-63)) 63=1:=by decide
 go_enter Tryz.func238,Tryz.ntmps238
 go_wp2
 go_ret
 exact⟨q.out,rfl⟩
theorem qhj (x:Int)(w:World)(o:0≤x∧x<2^32):Calls Tryz.prog 239 #[.int .u32 x,.int .i64 (-16)] w fun e w'=>e= .returned (.int .u32 (Q6 32 16 x))∧w'=w:=by
 have q:=hid (Ys (k:= .u32) (Zf 16 (by decide) x o));have D:bits BinOp.and IntKind.u64 (IntKind.u64.wrap (-16)) 31=16:=by decide
 go_enter Tryz.func239,Tryz.ntmps239
 go_wp2
 go_ret
 exact⟨q.out,rfl⟩
theorem qhk (x:Int)(w:World)(o:0≤x∧x<2^32):Calls Tryz.prog 239 #[.int .u32 x,.int .i64 (-12)] w fun e w'=>e= .returned (.int .u32 (Q6 32 12 x))∧w'=w:=by
 have q:=hid (Ys (k:= .u32) (Zf 12 (by decide) x o));have D:bits BinOp.and IntKind.u64 (IntKind.u64.wrap (-12)) 31=20:=by decide
 go_enter Tryz.func239,Tryz.ntmps239
 go_wp2
 go_ret
 exact⟨q.out,rfl⟩
theorem qio (x:Int)(w:World)(o:0≤x∧x<2^32):Calls Tryz.prog 239 #[.int .u32 x,.int .i64 (-8)] w fun e w'=>e= .returned (.int .u32 (Q6 32 8 x))∧w'=w:=by
 have q:=hid (Ys (k:= .u32) (Zf 8 (by decide) x o));have D:bits BinOp.and IntKind.u64 (IntKind.u64.wrap (-8)) 31=24:=by decide
 go_enter Tryz.func239,Tryz.ntmps239
 go_wp2
 go_ret
 exact⟨q.out,rfl⟩
theorem qip (x:Int)(w:World)(o:0≤x∧x<2^32):Calls Tryz.prog 239 #[.int .u32 x,.int .i64 (-7)] w fun e w'=>e= .returned (.int .u32 (Q6 32 7 x))∧w'=w:=by
 have q:=hid (Ys (k:= .u32) (Zf 7 (by decide) x o));have D:bits BinOp.and IntKind.u64 (IntKind.u64.wrap (-7)) 31=25:=by decide
 go_enter Tryz.func239,Tryz.ntmps239
 go_wp2
 go_ret
 exact⟨q.out,rfl⟩
theorem zZ (n m:Nat)(w:World)(q:0<m):Calls Tryz.prog 235 #[.int .i64 n,.int .i64 m] w fun e w'=>e= .returned (.int .i64 ((n%m:Nat):Int))∧w'=w:=by
 have D:((m:Int)==0)=false:=by rw[beq_eq_false_iff_ne];omega
 have G:((m:Int)=0)=False:=by simp;omega
 have o:=hid (Ys (k:= .i64) (show(n:Int)%(m:Int)=((n%m:Nat):Int) from rfl));go_enter Tryz.func235,Tryz.ntmps235
 go_wp2_with fail
 go_ret
 exact⟨o.out,rfl⟩
theorem qgc (x:Int)(w:World)(o:0≤x∧x<2^64):Calls Tryz.prog 233 #[.int .u64 x,.int .i64 32] w fun e w'=>e= .returned (.int .u64 (Q6 64 32 x))∧ ∃m,w'=w.drewN m:=by
 have D:=hid (Ys (k:= .u64) (ji 32 (by decide) x o));have q:=hid (zZ 32 64 w (by decide));go_enter Tryz.func233,Tryz.ntmps233
 go_wp2_with fail
 refine q.out.mono ?_;rintro e G ⟨rfl,rfl⟩;go_wp2
 go_quiet (fail)
 go_wp2
 go_ret
 exact⟨D.out,nq,rfl⟩
theorem qgd (x:Int)(w:World)(o:0≤x∧x<2^64):Calls Tryz.prog 233 #[.int .u64 x,.int .i64 24] w fun e w'=>e= .returned (.int .u64 (Q6 64 24 x))∧ ∃m,w'=w.drewN m:=by
 have D:=hid (Ys (k:= .u64) (ji 24 (by decide) x o));have q:=hid (zZ 24 64 w (by decide));go_enter Tryz.func233,Tryz.ntmps233
 go_wp2_with fail
 refine q.out.mono ?_;rintro e G ⟨rfl,rfl⟩;go_wp2
 go_quiet (fail)
 go_wp2
 go_ret
 exact⟨D.out,nq,rfl⟩
theorem qge (x:Int)(w:World)(o:0≤x∧x<2^64):Calls Tryz.prog 233 #[.int .u64 x,.int .i64 16] w fun e w'=>e= .returned (.int .u64 (Q6 64 16 x))∧ ∃m,w'=w.drewN m:=by
 have D:=hid (Ys (k:= .u64) (ji 16 (by decide) x o));have q:=hid (zZ 16 64 w (by decide));go_enter Tryz.func233,Tryz.ntmps233
 go_wp2_with fail
 refine q.out.mono ?_;rintro e G ⟨rfl,rfl⟩;go_wp2
 go_quiet (fail)
 go_wp2
 go_ret
 exact⟨D.out,nq,rfl⟩
theorem qgb (x:Int)(w:World)(o:0≤x∧x<2^64):Calls Tryz.prog 233 #[.int .u64 x,.int .i64 63] w fun e w'=>e= .returned (.int .u64 (Q6 64 63 x))∧ ∃m,w'=w.drewN m:=by
 have D:=hid (Ys (k:= .u64) (ji 63 (by decide) x o));have q:=hid (zZ 63 64 w (by decide));go_enter Tryz.func233,Tryz.ntmps233
 go_wp2_with fail
 refine q.out.mono ?_;rintro e G ⟨rfl,rfl⟩;go_wp2
 go_quiet (fail)
 go_wp2
 go_ret
 exact⟨D.out,nq,rfl⟩
theorem qgf (x:Int)(w:World)(o:0≤x∧x<2^32):Calls Tryz.prog 237 #[.int .u32 x,.int .i64 16] w fun e w'=>e= .returned (.int .u32 (Q6 32 16 x))∧w'=w:=by
 have q:=hid (Ys (k:= .u32) (jj 16 (by decide) x o));go_enter Tryz.func237,Tryz.ntmps237
 go_wp2
 go_ret
 exact⟨q.out,rfl⟩
theorem qgg (x:Int)(w:World)(o:0≤x∧x<2^32):Calls Tryz.prog 237 #[.int .u32 x,.int .i64 12] w fun e w'=>e= .returned (.int .u32 (Q6 32 12 x))∧w'=w:=by
 have q:=hid (Ys (k:= .u32) (jj 12 (by decide) x o));go_enter Tryz.func237,Tryz.ntmps237
 go_wp2
 go_ret
 exact⟨q.out,rfl⟩
theorem qg3 (x:Int)(w:World)(o:0≤x∧x<2^32):Calls Tryz.prog 237 #[.int .u32 x,.int .i64 8] w fun e w'=>e= .returned (.int .u32 (Q6 32 8 x))∧w'=w:=by
 have q:=hid (Ys (k:= .u32) (jj 8 (by decide) x o));go_enter Tryz.func237,Tryz.ntmps237
 go_wp2
 go_ret
 exact⟨q.out,rfl⟩
theorem qg4 (x:Int)(w:World)(o:0≤x∧x<2^32):Calls Tryz.prog 237 #[.int .u32 x,.int .i64 7] w fun e w'=>e= .returned (.int .u32 (Q6 32 7 x))∧w'=w:=by
 have q:=hid (Ys (k:= .u32) (jj 7 (by decide) x o));go_enter Tryz.func237,Tryz.ntmps237
 go_wp2
 go_ret
 exact⟨q.out,rfl⟩
theorem qs {W:World}{b:Nat}{c:Array Value}{T:TypeId}{fr:Nat×Nat}(h:W.heap[b]? =some (.cells c T fr))(i:Nat):W.cell? ⟨b,i,none⟩=c[i]? :=by simp[World.cell?,h]
theorem qO {W:World}{b:Nat}{cs:Array Value}{T:TypeId}(h:W.heap[b]? =some (Obj.cells cs T (0,0))):(∀o,W.cell? ⟨b,o,none⟩=cs[o]?)∧(∀o,W.frozen? ⟨b,o,none⟩=false):=
 ⟨fun o=>qs h o,fun o=>by simp[World.frozen?,h]⟩
structure But (b:Nat)(w w':World):Prop where
 os:w'.os=w.os
 tape:w'.tape=w.tape
 output:w'.output=w.output
 size:w.heap.size≤w'.heap.size
 block: ∀g,g<w.heap.size→g≠b→w'.heap[g]? =w.heap[g]?
namespace But
variable {b:Nat} {w w' w'':World}
theorem refl (b:Nat)(w:World):But b w w:=⟨rfl,rfl,rfl,Nat.le_refl _,fun _ _ _=>rfl⟩
theorem trans (h:But b w w')(k:But b w' w''):But b w w'':=
 ⟨k.os.trans h.os,k.tape.trans h.tape,k.output.trans h.output,Nat.le_trans h.size k.size,fun g q o=>(k.block g (Nat.lt_of_lt_of_le q h.size) o).trans (h.block g q o)⟩
theorem below {n:Nat}(h:But b w w')(o:n≤b)(D:n≤w.heap.size):Below n w w':=⟨h.os,h.tape,h.output,h.size,fun g q=>h.block g (by omega) (by omega)⟩
theorem of_below (h:Below w.heap.size w w'):But b w w':=⟨h.os,h.tape,h.output,h.size,fun g o _=>h.block g o⟩
theorem set (o:Nat)(v:Value)(h:But b w w'):But b w (w'.setCell ⟨b,o,none⟩ v):=
 h.trans ⟨rfl,rfl,rfl,by simp,fun g _ q=>Below.heap_setCell _ _ _ _ q⟩
theorem alloc (o:Obj)(h:But b w w'):But b w (w'.alloc o):=h.trans (of_below (Br.alloc Nl _))
theorem drewN (n:Nat)(h:But b w w'):But b w (w'.drewN n):=h.trans ⟨rfl,rfl,rfl,Nat.le_refl _,fun _ _ _=>rfl⟩
end But
def qi (k:IntKind)(L:List Int):Array Value:=(L.map fun z=>Value.int k z).toArray
theorem qC {k:IntKind}{N n:Nat}{L:List Int}(h:Words N n L){i:Nat}(o:i<n):(qi k L)[i]? =some (.int k (wd L i)):=by
 simp[qi,wd,Lg,List.getElem?_eq_getElem (show i<L.length by rw[h.1];exact o)]
theorem Qe {k:IntKind}{L:List Int}{i:Nat}{x:Int}:(qi k L).setIfInBounds i (.int k x)=qi k (L.set i x):=by
 simp[qi,List.map_set]
theorem w_of (N:Nat)(k:IntKind)(o: ∀z,k.wrap z=z%2^N)(a b c:Int):k.wrap (a+k.wrap (b+c))=(a+b+c)%2^N:=by
 rw[o,o,Int.add_emod,Int.emod_emod,←Int.add_emod,Int.add_assoc]
theorem qiI (N:Nat)(k:IntKind)(o: ∀z,k.wrap z=z%2^N)(a b c:Int):k.wrap (k.wrap (a+b)+c)=(a+b+c)%2^N:=by
 rw[o,o,Int.add_emod,Int.emod_emod,←Int.add_emod]
theorem qim {L:List Int}{a b c d:Nat}(O:a≠b)(J:a≠c)(U:a≠d)(D:b≠c)(o:b≠d)(q:c≠d)(A1 D1 C1 B1 A2 D2 Y X:Int):
  (((((((L.set a A1).set d D1).set c C1).set b B1).set a A2).set d D2).set c Y).set b X=(((L.set a A2).set d D2).set c Y).set b X:=by
 apply List.ext_getElem?
 intro i;by_cases G:i=b
 ·subst G;simp[List.getElem?_set,Ne.symm O,Ne.symm D,Ne.symm o,O,D,o]
 by_cases I:i=c
 ·subst I;simp[List.getElem?_set,Ne.symm G,q,Ne.symm q,J,Ne.symm J,D]
 by_cases V:i=d
 ·subst V;simp[List.getElem?_set,Ne.symm G,Ne.symm I,U,Ne.symm U,o,q]
 by_cases Z:i=a
 ·subst Z;simp[List.getElem?_set,Ne.symm G,Ne.symm I,Ne.symm V]
 ·simp[List.getElem?_set,Ne.symm G,Ne.symm I,Ne.symm V,Ne.symm Z]
theorem Je (N:Nat)(z:Int):0≤z%2^N∧z%2^N<2^N:=
 ⟨Int.emod_nonneg _ (Int.ne_of_gt (Int.pow_pos (by decide))),Int.emod_lt_of_pos _ (Int.pow_pos (by decide))⟩
theorem Qb (o:BinOp)(k:IntKind)(N:Nat)(q: ∀z,k.wrap z=z%2^N)(x y:Int):0≤bits o k x y∧bits o k x y<2^N:=by
 unfold bits;simp only[q];exact Je N _
theorem qm {P:Program}{c:Code}{Q:Exit→Act→World→Prop}{a:Act}{w:World}(h: ∀W,W=w→Code.wp P c Q a W):Code.wp P c Q a w:=h w rfl
theorem qcK {L:List Int}{i j:Nat}{x:Int}(h:i<L.length):wd (L.set i x) j=if i=j then x else wd L j:=by
 unfold wd;by_cases e:i=j
 ·subst e;simp[h]
 ·simp[e,Lg,List.getElem?_set]
structure At4 (k:IntKind)(b:Nat)(T:TypeId)(pa pb pc pd:Nat)(w0:World)(L:List Int)(va vb vc vd:Int)(w:World):Prop where
 heap:w.heap[b]? =some (.cells (qi k L) T (0,0))
 len:L.length=16
 ea:wd L pa=va
 eb:wd L pb=vb
 ec:wd L pc=vc
 ed:wd L pd=vd
 lt:pa<16∧pb<16∧pc<16∧pd<16
 ne:pa≠pb∧pa≠pc∧pa≠pd∧pb≠pc∧pb≠pd∧pc≠pd
 but:But b w0 w
namespace At4
variable {k:IntKind} {b:Nat} {T:TypeId} {pa pb pc pd:Nat} {w0:World} {L:List Int} {va vb vc vd:Int} {w:World}
theorem facts (h:At4 k b T pa pb pc pd w0 L va vb vc vd w):w.cell? ⟨b,pa,none⟩=some (.int k va)∧w.cell? ⟨b,pb,none⟩=some (.int k vb)∧w.cell? ⟨b,pc,none⟩=some (.int k vc)∧w.cell? ⟨b,pd,none⟩=some (.int k vd)∧(∀o,w.frozen? ⟨b,o,none⟩=false)∧b<w.heap.size:=by
 have at_: ∀i,i<16→w.cell? ⟨b,i,none⟩=some (.int k (wd L i)):=fun i q=>by
  rw[qs h.heap];simp[qi,wd,Lg,List.getElem?_eq_getElem (show i<L.length by rw[h.len];exact q)]
 exact⟨h.ea▸at_ pa h.lt.1,h.eb▸at_ pb h.lt.2.1,h.ec▸at_ pc h.lt.2.2.1,h.ed▸at_ pd h.lt.2.2.2,(qO h.heap).2,(Ai h.heap).1⟩
theorem setA (h:At4 k b T pa pb pc pd w0 L va vb vc vd w)(n:Nat)(x:Int):At4 k b T pa pb pc pd w0 (L.set pa x) x vb vc vd ((w.drewN n).setCell ⟨b,pa,none⟩ (.int k x)):=by
 obtain⟨J,I,U,G,D,O,lt,o,q⟩:=h;refine⟨by rw[←Qe];exact block_setCell (w:=w.drewN n) J _,by simpa using I,?_,?_,?_,?_,lt,o,(q.drewN n).set _ _⟩<;>rw[qcK (by omega)]
 ·simp
 ·rw[if_neg o.1,G]
 ·rw[if_neg o.2.1,D]
 ·rw[if_neg o.2.2.1,O]
theorem setB (h:At4 k b T pa pb pc pd w0 L va vb vc vd w)(n:Nat)(x:Int):At4 k b T pa pb pc pd w0 (L.set pb x) va x vc vd ((w.drewN n).setCell ⟨b,pb,none⟩ (.int k x)):=by
 obtain⟨I,G,O,U,D,J,lt,o,q⟩:=h;refine⟨by rw[←Qe];exact block_setCell (w:=w.drewN n) I _,by simpa using G,?_,?_,?_,?_,lt,o,(q.drewN n).set _ _⟩<;>rw[qcK (by omega)]
 ·rw[if_neg (Ne.symm o.1),O]
 ·simp
 ·rw[if_neg o.2.2.2.1,D]
 ·rw[if_neg o.2.2.2.2.1,J]
theorem setC (h:At4 k b T pa pb pc pd w0 L va vb vc vd w)(n:Nat)(x:Int):At4 k b T pa pb pc pd w0 (L.set pc x) va vb x vd ((w.drewN n).setCell ⟨b,pc,none⟩ (.int k x)):=by
 obtain⟨I,G,O,D,U,J,lt,o,q⟩:=h;refine⟨by rw[←Qe];exact block_setCell (w:=w.drewN n) I _,by simpa using G,?_,?_,?_,?_,lt,o,(q.drewN n).set _ _⟩<;>rw[qcK (by omega)]
 ·rw[if_neg (Ne.symm o.2.1),O]
 ·rw[if_neg (Ne.symm o.2.2.2.1),D]
 ·simp
 ·rw[if_neg o.2.2.2.2.2,J]
theorem setD (h:At4 k b T pa pb pc pd w0 L va vb vc vd w)(n:Nat)(x:Int):At4 k b T pa pb pc pd w0 (L.set pd x) va vb vc x ((w.drewN n).setCell ⟨b,pd,none⟩ (.int k x)):=by
 obtain⟨J,I,O,G,D,U,lt,o,q⟩:=h;refine⟨by rw[←Qe];exact block_setCell (w:=w.drewN n) J _,by simpa using I,?_,?_,?_,?_,lt,o,(q.drewN n).set _ _⟩<;>rw[qcK (by omega)]
 ·rw[if_neg (Ne.symm o.2.2.1),O]
 ·rw[if_neg (Ne.symm o.2.2.2.2.1),G]
 ·rw[if_neg (Ne.symm o.2.2.2.2.2),D]
 ·simp
theorem alloc (h:At4 k b T pa pb pc pd w0 L va vb vc vd w)(o:Obj):At4 k b T pa pb pc pd w0 L va vb vc vd (w.alloc o):=
 ⟨(Bh _ _ _ (Ai h.heap).1).trans h.heap,h.len,h.ea,h.eb,h.ec,h.ed,h.lt,h.ne,h.but.alloc o⟩
theorem drew (h:At4 k b T pa pb pc pd w0 L va vb vc vd w)(n:Nat):At4 k b T pa pb pc pd w0 L va vb vc vd (w.drewN n):=⟨h.heap,h.len,h.ea,h.eb,h.ec,h.ed,h.lt,h.ne,h.but.drewN n⟩
theorem letter (h:At4 k b T pa pb pc pd w0 L va vb vc vd w){W:World}(e:W=w):At4 k b T pa pb pc pd w0 L va vb vc vd W:=e▸h
end At4
theorem yK (b:Nat)(L:List Int)(hL:Words 64 16 L)(pa pb pc pd:Nat)(ha:pa<16)(hb:pb<16)(hc:pc<16)(hd:pd<16)(ad:pa≠pb)(af:pa≠pc)(ak:pa≠pd)(ac:pb≠pc)(ag:pb≠pd)(ah:pc≠pd)
  (x y:Int) (T:TypeId) (w:World) (hw:w.heap[b]? =some (.cells (qi .u64 L) T (0,0))):
  Calls Tryz.prog 229 #[.pointer (some ⟨b,0,none⟩),.agg #[.int .i64 pa,.int .i64 pb,.int .i64 pc,.int .i64 pd],.int .u64 x,.int .u64 y] w fun e w'=>e= .returned (.tuple #[])∧w'.heap[b]? =some (.cells (qi .u64 (mixBig.step L pa pb pc pd x y)) T (0,0))∧But b w w':=by
 have aq:b<w.heap.size:=(Ai hw).1;have h0:At4 .u64 b T pa pb pc pd w L (wd L pa) (wd L pb) (wd L pc) (wd L pd) w:=⟨hw,hL.1,rfl,rfl,rfl,rfl,⟨ha,hb,hc,hd⟩,⟨ad,af,ak,ac,ag,ah⟩,But.refl _ _⟩;clear hw;have V: ∀z,IntKind.u64.wrap z=z%2^64:=fun z=>IntKind.wrap_u64 z
 obtain⟨A1,ao⟩:=Ex (IntKind.u64.wrap (wd L pa+IntKind.u64.wrap (wd L pb+x)));obtain⟨X1,ae⟩:=Ex (bits BinOp.xor .u64 (wd L pd) A1);obtain⟨D1,Y⟩:=Ex (Q6 64 32 X1);obtain⟨C1,al⟩:=Ex (IntKind.u64.wrap (wd L pc+D1));obtain⟨X2,ai⟩:=Ex (bits BinOp.xor .u64 (wd L pb) C1);obtain⟨B1,aa⟩:=Ex (Q6 64 24 X2);obtain⟨A2,ap⟩:=Ex (IntKind.u64.wrap (A1+IntKind.u64.wrap (B1+y)));obtain⟨X3,aj⟩:=Ex (bits BinOp.xor .u64 D1 A2);obtain⟨D2,Z⟩:=Ex (Q6 64 16 X3);obtain⟨C2,an⟩:=Ex (IntKind.u64.wrap (C1+D2));obtain⟨X4,ab⟩:=Ex (bits BinOp.xor .u64 B1 C2);obtain⟨B2,X⟩:=Ex (Q6 64 63 X4);have R1:=hid (fun w=>qhg X1 w (ae▸Qb .xor .u64 64 V _ _));have R2:=hid (fun w=>qhh X2 w (ai▸Qb .xor .u64 64 V _ _));have R3:=hid (fun w=>qhi X3 w (aj▸Qb .xor .u64 64 V _ _));have R4:=hid (fun w=>qhf X4 w (ab▸Qb .xor .u64 64 V _ _));have ES:mixBig.step L pa pb pc pd x y=(((L.set pa A2).set pd D2).set pc C2).set pb B2:=by
  have e1:A1=mixBig.a1 (wd L pa) (wd L pb) x:=by rw[←ao];exact w_of 64 .u64 V _ _ _
  have e2:D1=mixBig.d1 (wd L pa) (wd L pb) (wd L pd) x:=by rw[←Y,←ae,e1];rfl
  have e3:C1=mixBig.c1 (wd L pa) (wd L pb) (wd L pc) (wd L pd) x:=by rw[←al,e2];exact V _
  have e4:B1=mixBig.b1 (wd L pa) (wd L pb) (wd L pc) (wd L pd) x:=by rw[←aa,←ai,e3];rfl
  have e5:A2=mixBig.a2 (wd L pa) (wd L pb) (wd L pc) (wd L pd) x y:=by rw[←ap,e1,e4];exact w_of 64 .u64 V _ _ _
  have e6:D2=mixBig.d2 (wd L pa) (wd L pb) (wd L pc) (wd L pd) x y:=by rw[←Z,←aj,e2,e5];rfl
  have e7:C2=mixBig.c2 (wd L pa) (wd L pb) (wd L pc) (wd L pd) x y:=by rw[←an,e3,e6];exact V _
  have e8:B2=mixBig.b2 (wd L pa) (wd L pb) (wd L pc) (wd L pd) x y:=by rw[←X,←ab,e4,e7];rfl
  rw[e5,e6,e7,e8];rfl
 have am:=hid ES;rw[Y]at R1;rw[aa]at R2;rw[Z]at R3;rw[X]at R4;clear Y aa Z X ES V;generalize wd L pa=va at*;generalize wd L pb=vb at*;generalize wd L pc=vc at*;generalize wd L pd=vd at*;go_enter Tryz.func229,Tryz.ntmps229
 go_wp2_with fail
 obtain⟨I,J,G,D,O,U⟩:=h0.facts;go_quiet (fail)
 go_wp2_with fail
 clear I J G D O U;replace h0:=(h0.alloc (.cells #[.int .i64 pa,.int .i64 pb,.int .i64 pc,.int .i64 pd] 330 (0,0))).drew nq
 refine qm ?_;intro W0 q;have H0:=hid (h0.letter q);obtain⟨I,J,G,D,O,U⟩:=H0.out.facts;clear q h0;refine qj (by dsimp only[List.dropLast]) (by rfl) (by rfl) (by kernel_rfl) (by kernel_rfl) (by kernel_rfl) (by kernel_rfl) ?_;repeat(go_big_quiet_step (fail))
 refine wpQuiet_nil ?_;intro _ o;obtain⟨n0,rfl⟩:=o;go_wp2_with fail
 clear I J G D O U;have h1:=H0.out.setA n0 A1;clear H0;refine qm ?_;intro W1 q;have H1:=hid (h1.letter q);obtain⟨I,J,G,D,O,U⟩:=H1.out.facts;clear q h1;refine qj (by dsimp only[List.dropLast]) (by rfl) (by rfl) (by kernel_rfl) (by kernel_rfl) (by kernel_rfl) (by kernel_rfl) ?_;repeat(go_big_quiet_step (exact Calls.quiet_of_same (R1.out _)))
 refine wpQuiet_nil ?_;intro _ o;obtain⟨n1,rfl⟩:=o;go_wp2_with fail
 clear I J G D O U;have h2:=H1.out.setD n1 D1;clear H1;refine qm ?_;intro W2 q;have H2:=hid (h2.letter q);obtain⟨I,J,G,D,O,U⟩:=H2.out.facts;clear q h2;refine qj (by dsimp only[List.dropLast]) (by rfl) (by rfl) (by kernel_rfl) (by kernel_rfl) (by kernel_rfl) (by kernel_rfl) ?_;repeat(go_big_quiet_step (fail))
 refine wpQuiet_nil ?_;intro _ o;obtain⟨n2,rfl⟩:=o;go_wp2_with fail
 clear I J G D O U;have h3:=H2.out.setC n2 C1;clear H2;refine qm ?_;intro W3 q;have H3:=hid (h3.letter q);obtain⟨I,J,G,D,O,U⟩:=H3.out.facts;clear q h3;refine qj (by dsimp only[List.dropLast]) (by rfl) (by rfl) (by kernel_rfl) (by kernel_rfl) (by kernel_rfl) (by kernel_rfl) ?_;repeat(go_big_quiet_step (exact Calls.quiet_of_same (R2.out _)))
 refine wpQuiet_nil ?_;intro _ o;obtain⟨n3,rfl⟩:=o;go_wp2_with fail
 clear I J G D O U;have h4:=H3.out.setB n3 B1;clear H3;refine qm ?_;intro W4 q;have H4:=hid (h4.letter q);obtain⟨I,J,G,D,O,U⟩:=H4.out.facts;clear q h4;refine qj (by dsimp only[List.dropLast]) (by rfl) (by rfl) (by kernel_rfl) (by kernel_rfl) (by kernel_rfl) (by kernel_rfl) ?_;repeat(go_big_quiet_step (fail))
 refine wpQuiet_nil ?_;intro _ o;obtain⟨n4,rfl⟩:=o;go_wp2_with fail
 clear I J G D O U;have h5:=H4.out.setA n4 A2;clear H4;refine qm ?_;intro W5 q;have H5:=hid (h5.letter q);obtain⟨I,J,G,D,O,U⟩:=H5.out.facts;clear q h5;refine qj (by dsimp only[List.dropLast]) (by rfl) (by rfl) (by kernel_rfl) (by kernel_rfl) (by kernel_rfl) (by kernel_rfl) ?_;repeat(go_big_quiet_step (exact Calls.quiet_of_same (R3.out _)))
 refine wpQuiet_nil ?_;intro _ o;obtain⟨n5,rfl⟩:=o;go_wp2_with fail
 clear I J G D O U;have h6:=H5.out.setD n5 D2;clear H5;refine qm ?_;intro W6 q;have H6:=hid (h6.letter q);obtain⟨I,J,G,D,O,U⟩:=H6.out.facts;clear q h6;refine qj (by dsimp only[List.dropLast]) (by rfl) (by rfl) (by kernel_rfl) (by kernel_rfl) (by kernel_rfl) (by kernel_rfl) ?_;repeat(go_big_quiet_step (fail))
 refine wpQuiet_nil ?_;intro _ o;obtain⟨n6,rfl⟩:=o;go_wp2_with fail
 clear I J G D O U;have h7:=H6.out.setC n6 C2;clear H6;refine qm ?_;intro W7 q;have H7:=hid (h7.letter q);obtain⟨I,J,G,D,O,U⟩:=H7.out.facts;clear q h7;refine qj (by dsimp only[List.dropLast]) (by rfl) (by rfl) (by kernel_rfl) (by kernel_rfl) (by kernel_rfl) (by kernel_rfl) ?_;repeat(go_big_quiet_step (exact Calls.quiet_of_same (R4.out _)))
 refine wpQuiet_nil ?_;intro _ o;obtain⟨n7,rfl⟩:=o;go_wp2_with fail
 clear I J G D O U;have h8:=H7.out.setB n7 B2;clear H7;refine bodyPost_end (results_none rfl _ _ _) rfl ⟨rfl,?_,h8.but⟩;rw[am.out,←qim ad af ak ac ag ah A1 D1 C1 B1];exact h8.heap
theorem yL (b:Nat)(L:List Int)(hL:Words 32 16 L)(pa pb pc pd:Nat)(ha:pa<16)(hb:pb<16)(hc:pc<16)(hd:pd<16)(ac:pa≠pb)(ae:pa≠pc)(aj:pa≠pd)(ab:pb≠pc)(af:pb≠pd)(ag:pc≠pd)
  (x y:Int) (T:TypeId) (w:World) (hw:w.heap[b]? =some (.cells (qi .u32 L) T (0,0))):
  Calls Tryz.prog 231 #[.pointer (some ⟨b,0,none⟩),.int .i64 pa,.int .i64 pb,.int .i64 pc,.int .i64 pd,.int .u32 x,.int .u32 y] w fun e w'=>e= .returned (.tuple #[])∧w'.heap[b]? =some (.cells (qi .u32 (mixSmall.step L pa pb pc pd x y)) T (0,0))∧But b w w':=by
 have ap:b<w.heap.size:=(Ai hw).1;have h0:At4 .u32 b T pa pb pc pd w L (wd L pa) (wd L pb) (wd L pc) (wd L pd) w:=⟨hw,hL.1,rfl,rfl,rfl,rfl,⟨ha,hb,hc,hd⟩,⟨ac,ae,aj,ab,af,ag⟩,But.refl _ _⟩;clear hw;have hm: ∀z,IntKind.u32.wrap z=z%2^32:=fun z=>IntKind.wrap_u32 z
 obtain⟨A1,an⟩:=Ex ((wd L pa+(wd L pb+x))%4294967296);obtain⟨X1,ad⟩:=Ex (bits BinOp.xor .u32 (wd L pd) A1);obtain⟨D1,X⟩:=Ex (Q6 32 16 X1);obtain⟨C1,ak⟩:=Ex ((wd L pc+D1)%4294967296);obtain⟨X2,ah⟩:=Ex (bits BinOp.xor .u32 (wd L pb) C1);obtain⟨B1,Z⟩:=Ex (Q6 32 12 X2);obtain⟨A2,ao⟩:=Ex ((A1+(B1+y))%4294967296);obtain⟨X3,ai⟩:=Ex (bits BinOp.xor .u32 D1 A2);obtain⟨D2,Y⟩:=Ex (Q6 32 8 X3);obtain⟨C2,am⟩:=Ex ((C1+D2)%4294967296);obtain⟨X4,aa⟩:=Ex (bits BinOp.xor .u32 B1 C2);obtain⟨B2,V⟩:=Ex (Q6 32 7 X4);have R1:=hid (fun w=>qhj X1 w (ad▸Qb .xor .u32 32 hm _ _));have R2:=hid (fun w=>qhk X2 w (ah▸Qb .xor .u32 32 hm _ _));have R3:=hid (fun w=>qio X3 w (ai▸Qb .xor .u32 32 hm _ _));have R4:=hid (fun w=>qip X4 w (aa▸Qb .xor .u32 32 hm _ _));have ES:mixSmall.step L pa pb pc pd x y=(((L.set pa A2).set pd D2).set pc C2).set pb B2:=by
  have e1:A1=mixSmall.a1 (wd L pa) (wd L pb) x:=by rw[←an];rw[←Int.add_assoc];rfl
  have e2:D1=mixSmall.d1 (wd L pa) (wd L pb) (wd L pd) x:=by rw[←X,←ad,e1];rfl
  have e3:C1=mixSmall.c1 (wd L pa) (wd L pb) (wd L pc) (wd L pd) x:=by rw[←ak,e2];rfl
  have e4:B1=mixSmall.b1 (wd L pa) (wd L pb) (wd L pc) (wd L pd) x:=by rw[←Z,←ah,e3];rfl
  have e5:A2=mixSmall.a2 (wd L pa) (wd L pb) (wd L pc) (wd L pd) x y:=by rw[←ao,e1,e4];rw[←Int.add_assoc];rfl
  have e6:D2=mixSmall.d2 (wd L pa) (wd L pb) (wd L pc) (wd L pd) x y:=by rw[←Y,←ai,e2,e5];rfl
  have e7:C2=mixSmall.c2 (wd L pa) (wd L pb) (wd L pc) (wd L pd) x y:=by rw[←am,e3,e6];rfl
  have e8:B2=mixSmall.b2 (wd L pa) (wd L pb) (wd L pc) (wd L pd) x y:=by rw[←V,←aa,e4,e7];rfl
  rw[e5,e6,e7,e8];rfl
 have al:=hid ES;rw[X]at R1;rw[Z]at R2;rw[Y]at R3;rw[V]at R4;clear X Z Y V ES hm;generalize wd L pa=va at*;generalize wd L pb=vb at*;generalize wd L pc=vc at*;generalize wd L pd=vd at*;go_enter Tryz.func231,Tryz.ntmps231
 go_wp2_with fail
 refine qm ?_;intro W0 q;have H0:=hid (h0.letter q);obtain⟨I,J,G,D,O,U⟩:=H0.out.facts;clear q h0;refine qj (by dsimp only[List.dropLast]) (by rfl) (by rfl) (by kernel_rfl) (by kernel_rfl) (by kernel_rfl) (by kernel_rfl) ?_;repeat(go_big_quiet_step (fail))
 refine wpQuiet_nil ?_;intro _ o;obtain⟨n0,rfl⟩:=o;go_wp2_with fail
 clear I J G D O U;have h1:=H0.out.setA n0 A1;clear H0;refine qm ?_;intro W1 q;have H1:=hid (h1.letter q);obtain⟨I,J,G,D,O,U⟩:=H1.out.facts;clear q h1;refine qj (by dsimp only[List.dropLast]) (by rfl) (by rfl) (by kernel_rfl) (by kernel_rfl) (by kernel_rfl) (by kernel_rfl) ?_;repeat(go_big_quiet_step (exact Calls.quiet_of_same (R1.out _)))
 refine wpQuiet_nil ?_;intro _ o;obtain⟨n1,rfl⟩:=o;go_wp2_with fail
 clear I J G D O U;have h2:=H1.out.setD n1 D1;clear H1;refine qm ?_;intro W2 q;have H2:=hid (h2.letter q);obtain⟨I,J,G,D,O,U⟩:=H2.out.facts;clear q h2;refine qj (by dsimp only[List.dropLast]) (by rfl) (by rfl) (by kernel_rfl) (by kernel_rfl) (by kernel_rfl) (by kernel_rfl) ?_;repeat(go_big_quiet_step (fail))
 refine wpQuiet_nil ?_;intro _ o;obtain⟨n2,rfl⟩:=o;go_wp2_with fail
 clear I J G D O U;have h3:=H2.out.setC n2 C1;clear H2;refine qm ?_;intro W3 q;have H3:=hid (h3.letter q);obtain⟨I,J,G,D,O,U⟩:=H3.out.facts;clear q h3;refine qj (by dsimp only[List.dropLast]) (by rfl) (by rfl) (by kernel_rfl) (by kernel_rfl) (by kernel_rfl) (by kernel_rfl) ?_;repeat(go_big_quiet_step (exact Calls.quiet_of_same (R2.out _)))
 refine wpQuiet_nil ?_;intro _ o;obtain⟨n3,rfl⟩:=o;go_wp2_with fail
 clear I J G D O U;have h4:=H3.out.setB n3 B1;clear H3;refine qm ?_;intro W4 q;have H4:=hid (h4.letter q);obtain⟨I,J,G,D,O,U⟩:=H4.out.facts;clear q h4;refine qj (by dsimp only[List.dropLast]) (by rfl) (by rfl) (by kernel_rfl) (by kernel_rfl) (by kernel_rfl) (by kernel_rfl) ?_;repeat(go_big_quiet_step (fail))
 refine wpQuiet_nil ?_;intro _ o;obtain⟨n4,rfl⟩:=o;go_wp2_with fail
 clear I J G D O U;have h5:=H4.out.setA n4 A2;clear H4;refine qm ?_;intro W5 q;have H5:=hid (h5.letter q);obtain⟨I,J,G,D,O,U⟩:=H5.out.facts;clear q h5;refine qj (by dsimp only[List.dropLast]) (by rfl) (by rfl) (by kernel_rfl) (by kernel_rfl) (by kernel_rfl) (by kernel_rfl) ?_;repeat(go_big_quiet_step (exact Calls.quiet_of_same (R3.out _)))
 refine wpQuiet_nil ?_;intro _ o;obtain⟨n5,rfl⟩:=o;go_wp2_with fail
 clear I J G D O U;have h6:=H5.out.setD n5 D2;clear H5;refine qm ?_;intro W6 q;have H6:=hid (h6.letter q);obtain⟨I,J,G,D,O,U⟩:=H6.out.facts;clear q h6;refine qj (by dsimp only[List.dropLast]) (by rfl) (by rfl) (by kernel_rfl) (by kernel_rfl) (by kernel_rfl) (by kernel_rfl) ?_;repeat(go_big_quiet_step (fail))
 refine wpQuiet_nil ?_;intro _ o;obtain⟨n6,rfl⟩:=o;go_wp2_with fail
 clear I J G D O U;have h7:=H6.out.setC n6 C2;clear H6;refine qm ?_;intro W7 q;have H7:=hid (h7.letter q);obtain⟨I,J,G,D,O,U⟩:=H7.out.facts;clear q h7;refine qj (by dsimp only[List.dropLast]) (by rfl) (by rfl) (by kernel_rfl) (by kernel_rfl) (by kernel_rfl) (by kernel_rfl) ?_;repeat(go_big_quiet_step (exact Calls.quiet_of_same (R4.out _)))
 refine wpQuiet_nil ?_;intro _ o;obtain⟨n7,rfl⟩:=o;go_wp2_with fail
 clear I J G D O U;have h8:=H7.out.setB n7 B2;clear H7;refine bodyPost_end (results_none rfl _ _ _) rfl ⟨rfl,?_,h8.but⟩;rw[al.out,←qim ac ae aj ab af ag A1 D1 C1 B1];exact h8.heap
end Go.Proofs.YthjoojnlnlmljaaGreat
