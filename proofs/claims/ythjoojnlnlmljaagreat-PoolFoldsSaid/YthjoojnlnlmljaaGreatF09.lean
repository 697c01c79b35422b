/- Turns: bits.RotateLeft64 and 32, the reference's Turn64 and turn. No condition. -/
import Derived.Test.YthjoojnlnlmljaaGreatF02
import Derived.Test.YthjoojnlnlmljaaGreatF08
import Derived.Lib.SmallJoins
import Derived.Lib.EndianBits
import Derived.Lib.Hide
import Derived.BigQuiet
import Derived.Deep.QuietTactic
import Derived.Test.YthjoojnlnlmljaaGreatF06
set_option linter.all false
set_option maxRecDepth 100000
set_option maxHeartbeats 8000000
namespace Go.Proofs.YthjoojnlnlmljaaGreat
open Go.ChangeShapes Go.WideShapes Go.ChangeAt Go.RowKit Go.Joins
open Go.Lib (hid)
attribute [local go_sem] Oper.semAt_some
theorem qgw (j r:Nat)(o:r≤j)(x:Int):x*2^(j - r)%2^j=x%2^r*2^(j - r):=by
 have e:(2:Int)^j=2^r*2^(j - r):=by rw[←Int.pow_add,show r+(j - r)=j by omega]
 rw[e,Int.mul_comm x,Int.mul_comm (2^r),Int.mul_emod_mul_of_pos _ _ (Int.pow_pos (by decide)),Int.mul_comm]
theorem qcj (k:IntKind)(j r:Nat)(V:j≤k.bits)(I: ∀n:Int,0≤n→n<2^j→k.wrap n=n)(X: ∀z,k.wrap z=z%2^j)(D:r≤j)(x:Int)(q:0≤x∧x<2^j):
  bits .or k (x/2^r) (k.wrap (x*2^(j - r)))=QY j r x:=by
 have o:(0:Int)<2^r:=Int.pow_pos (by decide);have O:(0:Int)<2^(j - r):=Int.pow_pos (by decide);have e:(2:Int)^j=2^r*2^(j - r):=by rw[←Int.pow_add,show r+(j - r)=j by omega]
 have G:=ZA D q;have U:=Int.emod_nonneg x (Int.ne_of_gt o);have J:=Int.ediv_nonneg q.1 (Int.le_of_lt o);have d1:x/2^r<2^(j - r):=Int.ediv_lt_of_lt_mul o (by rw[Int.mul_comm,←e];exact q.2);have S:0≤x%2^r*2^(j - r):=Int.mul_nonneg U (Int.le_of_lt O);unfold QY at G⊢;rw[X,qgw j r D];exact bits_join_low k j V I (j - r) _ _ J d1 (by omega) S (Int.mul_emod_left _ _) (by omega)
theorem qdd (k:IntKind)(j r:Nat)(D:j≤k.bits)(G: ∀n:Int,0≤n→n<2^j→k.wrap n=n)(I: ∀z,k.wrap z=z%2^j)(q:r≤j)(x:Int)(o:0≤x∧x<2^j):
  bits .or k (k.wrap (x*2^(j - r))) (x/2^r)=QY j r x:=by
 rw[←qcj k j r D G I q x o];simp only[bits,BitVec.or_comm]
theorem Jp (n:Int)(q:0≤n)(o:n<2^32):IntKind.u32.wrap n=n:=by rw[IntKind.wrap_u32];omega
theorem ZZ (r:Nat)(q:r≤64)(x:Int)(o:0≤x∧x<2^64):bits .or .u64 (x/2^r) (IntKind.u64.wrap (x*2^(64 - r)))=QY 64 r x:=qcj .u64 64 r (by decide) wraps_u64 (fun z=>IntKind.wrap_u64 z) q x o
theorem zU (r:Nat)(q:r≤64)(x:Int)(o:0≤x∧x<2^64):bits .or .u64 (IntKind.u64.wrap (x*2^(64 - r))) (x/2^r)=QY 64 r x:=qdd .u64 64 r (by decide) wraps_u64 (fun z=>IntKind.wrap_u64 z) q x o
theorem Z0 (r:Nat)(q:r≤32)(x:Int)(o:0≤x∧x<2^32):bits .or .u32 (x/2^r) (IntKind.u32.wrap (x*2^(32 - r)))=QY 32 r x:=qcj .u32 32 r (by decide) Jp (fun z=>IntKind.wrap_u32 z) q x o
theorem zV (r:Nat)(q:r≤32)(x:Int)(o:0≤x∧x<2^32):bits .or .u32 (IntKind.u32.wrap (x*2^(32 - r))) (x/2^r)=QY 32 r x:=qdd .u32 32 r (by decide) Jp (fun z=>IntKind.wrap_u32 z) q x o
theorem Yj {k:IntKind}{a b:Int}(h:a=b):Ending.returned (.int k a)= .returned (.int k b):=by rw[h]
theorem qgD (x:Int)(w:World)(q:0≤x∧x<2^64):Calls Tryz.prog 238 #[.int .u64 x,.int .i64 (-32)] w fun e w'=>e= .returned (.int .u64 (QY 64 32 x))∧w'=w:=by
 have o:=hid (Yj (k:= .u64) (zU 32 (by decide) x q));have D:bits BinOp.and IntKind.u64 (IntKind.u64.wrap (-32)) 63=32:=by decide
 go_enter Tryz.func238,Tryz.ntmps238
 go_wp2
 go_ret
 exact⟨o.out,rfl⟩
theorem qgE (x:Int)(w:World)(q:0≤x∧x<2^64):Calls Tryz.prog 238 #[.int .u64 x,.int .i64 (-24)] w fun e w'=>e= .returned (.int .u64 (QY 64 24 x))∧w'=w:=by
 have o:=hid (Yj (k:= .u64) (zU 24 (by decide) x q));have D:bits BinOp.and IntKind.u64 (IntKind.u64.wrap (-24)) 63=40:=by decide
 go_enter Tryz.func238,Tryz.ntmps238
 go_wp2
 go_ret
 exact⟨o.out,rfl⟩
theorem qgF (x:Int)(w:World)(q:0≤x∧x<2^64):Calls Tryz.prog 238 #[.int .u64 x,.int .i64 (-16)] w fun e w'=>e= .returned (.int .u64 (QY 64 16 x))∧w'=w:=by
 have o:=hid (Yj (k:= .u64) (zU 16 (by decide) x q));have D:bits BinOp.and IntKind.u64 (IntKind.u64.wrap (-16)) 63=48:=by decide
 go_enter Tryz.func238,Tryz.ntmps238
 go_wp2
 go_ret
 exact⟨o.out,rfl⟩
theorem qgC (x:Int)(w:World)(q:0≤x∧x<2^64):Calls Tryz.prog 238 #[.int .u64 x,.int .i64 (-63)] w fun e w'=>e= .returned (.int .u64 (QY 64 63 x))∧w'=w:=by
 have o:=hid (Yj (k:= .u64) (zU 63 (by decide) x q));have D:bits BinOp.and IntKind.u64 (IntKind.u64.wrap (-63)) 63=1:=by decide
 go_enter Tryz.func238,Tryz.ntmps238
 go_wp2
 go_ret
 exact⟨o.out,rfl⟩
theorem qgG (x:Int)(w:World)(q:0≤x∧x<2^32):Calls Tryz.prog 239 #[.int .u32 x,.int .i64 (-16)] w fun e w'=>e= .returned (.int .u32 (QY 32 16 x))∧w'=w:=by
 have o:=hid (Yj (k:= .u32) (zV 16 (by decide) x q));have D:bits BinOp.and IntKind.u64 (IntKind.u64.wrap (-16)) 31=16:=by decide
 go_enter Tryz.func239,Tryz.ntmps239
 go_wp2
 go_ret
 exact⟨o.out,rfl⟩
theorem qgH (x:Int)(w:World)(q:0≤x∧x<2^32):Calls Tryz.prog 239 #[.int .u32 x,.int .i64 (-12)] w fun e w'=>e= .returned (.int .u32 (QY 32 12 x))∧w'=w:=by
 have o:=hid (Yj (k:= .u32) (zV 12 (by decide) x q));have D:bits BinOp.and IntKind.u64 (IntKind.u64.wrap (-12)) 31=20:=by decide
 go_enter Tryz.func239,Tryz.ntmps239
 go_wp2
 go_ret
 exact⟨o.out,rfl⟩
theorem qhK (x:Int)(w:World)(q:0≤x∧x<2^32):Calls Tryz.prog 239 #[.int .u32 x,.int .i64 (-8)] w fun e w'=>e= .returned (.int .u32 (QY 32 8 x))∧w'=w:=by
 have o:=hid (Yj (k:= .u32) (zV 8 (by decide) x q));have D:bits BinOp.and IntKind.u64 (IntKind.u64.wrap (-8)) 31=24:=by decide
 go_enter Tryz.func239,Tryz.ntmps239
 go_wp2
 go_ret
 exact⟨o.out,rfl⟩
theorem qhL (x:Int)(w:World)(q:0≤x∧x<2^32):Calls Tryz.prog 239 #[.int .u32 x,.int .i64 (-7)] w fun e w'=>e= .returned (.int .u32 (QY 32 7 x))∧w'=w:=by
 have o:=hid (Yj (k:= .u32) (zV 7 (by decide) x q));have D:bits BinOp.and IntKind.u64 (IntKind.u64.wrap (-7)) 31=25:=by decide
 go_enter Tryz.func239,Tryz.ntmps239
 go_wp2
 go_ret
 exact⟨o.out,rfl⟩
theorem zJ (n m:Nat)(w:World)(G:0<m):Calls Tryz.prog 235 #[.int .i64 n,.int .i64 m] w fun e w'=>e= .returned (.int .i64 ((n%m:Nat):Int))∧w'=w:=by
 have D:((m:Int)==0)=false:=by rw[beq_eq_false_iff_ne];omega
 have q:((m:Int)=0)=False:=by simp;omega
 have o:=hid (Yj (k:= .i64) (show(n:Int)%(m:Int)=((n%m:Nat):Int) from rfl));go_enter Tryz.func235,Tryz.ntmps235
 go_wp2_with fail
 go_ret
 exact⟨o.out,rfl⟩
theorem qfE (x:Int)(w:World)(q:0≤x∧x<2^64):Calls Tryz.prog 233 #[.int .u64 x,.int .i64 32] w fun e w'=>e= .returned (.int .u64 (QY 64 32 x))∧ ∃m,w'=w.drewN m:=by
 have o:=hid (Yj (k:= .u64) (ZZ 32 (by decide) x q));have D:=hid (zJ 32 64 w (by decide));go_enter Tryz.func233,Tryz.ntmps233
 go_wp2_with fail
 refine D.out.mono ?_;rintro e G ⟨rfl,rfl⟩;go_wp2
 go_quiet (fail)
 go_wp2
 go_ret
 exact⟨o.out,nq,rfl⟩
theorem qfF (x:Int)(w:World)(q:0≤x∧x<2^64):Calls Tryz.prog 233 #[.int .u64 x,.int .i64 24] w fun e w'=>e= .returned (.int .u64 (QY 64 24 x))∧ ∃m,w'=w.drewN m:=by
 have o:=hid (Yj (k:= .u64) (ZZ 24 (by decide) x q));have D:=hid (zJ 24 64 w (by decide));go_enter Tryz.func233,Tryz.ntmps233
 go_wp2_with fail
 refine D.out.mono ?_;rintro e G ⟨rfl,rfl⟩;go_wp2
 go_quiet (fail)
 go_wp2
 go_ret
 exact⟨o.out,nq,rfl⟩
theorem qfG (x:Int)(w:World)(q:0≤x∧x<2^64):Calls Tryz.prog 233 #[.int .u64 x,.int .i64 16] w fun e w'=>e= .returned (.int .u64 (QY 64 16 x))∧ ∃m,w'=w.drewN m:=by
 have o:=hid (Yj (k:= .u64) (ZZ 16 (by decide) x q));have D:=hid (zJ 16 64 w (by decide));go_enter Tryz.func233,Tryz.ntmps233
 go_wp2_with fail
 refine D.out.mono ?_;rintro e G ⟨rfl,rfl⟩;go_wp2
 go_quiet (fail)
 go_wp2
 go_ret
 exact⟨o.out,nq,rfl⟩
theorem qfD (x:Int)(w:World)(q:0≤x∧x<2^64):Calls Tryz.prog 233 #[.int .u64 x,.int .i64 63] w fun e w'=>e= .returned (.int .u64 (QY 64 63 x))∧ ∃m,w'=w.drewN m:=by
 have o:=hid (Yj (k:= .u64) (ZZ 63 (by decide) x q));have D:=hid (zJ 63 64 w (by decide));go_enter Tryz.func233,Tryz.ntmps233
 go_wp2_with fail
 refine D.out.mono ?_;rintro e G ⟨rfl,rfl⟩;go_wp2
 go_quiet (fail)
 go_wp2
 go_ret
 exact⟨o.out,nq,rfl⟩
theorem qfH (x:Int)(w:World)(q:0≤x∧x<2^32):Calls Tryz.prog 237 #[.int .u32 x,.int .i64 16] w fun e w'=>e= .returned (.int .u32 (QY 32 16 x))∧w'=w:=by
 have o:=hid (Yj (k:= .u32) (Z0 16 (by decide) x q));go_enter Tryz.func237,Tryz.ntmps237
 go_wp2
 go_ret
 exact⟨o.out,rfl⟩
theorem qfI (x:Int)(w:World)(q:0≤x∧x<2^32):Calls Tryz.prog 237 #[.int .u32 x,.int .i64 12] w fun e w'=>e= .returned (.int .u32 (QY 32 12 x))∧w'=w:=by
 have o:=hid (Yj (k:= .u32) (Z0 12 (by decide) x q));go_enter Tryz.func237,Tryz.ntmps237
 go_wp2
 go_ret
 exact⟨o.out,rfl⟩
theorem qgs (x:Int)(w:World)(q:0≤x∧x<2^32):Calls Tryz.prog 237 #[.int .u32 x,.int .i64 8] w fun e w'=>e= .returned (.int .u32 (QY 32 8 x))∧w'=w:=by
 have o:=hid (Yj (k:= .u32) (Z0 8 (by decide) x q));go_enter Tryz.func237,Tryz.ntmps237
 go_wp2
 go_ret
 exact⟨o.out,rfl⟩
theorem qgt (x:Int)(w:World)(q:0≤x∧x<2^32):Calls Tryz.prog 237 #[.int .u32 x,.int .i64 7] w fun e w'=>e= .returned (.int .u32 (QY 32 7 x))∧w'=w:=by
 have o:=hid (Yj (k:= .u32) (Z0 7 (by decide) x q));go_enter Tryz.func237,Tryz.ntmps237
 go_wp2
 go_ret
 exact⟨o.out,rfl⟩
theorem qm {W:World}{b:Nat}{c:Array Value}{T:TypeId}{fr:Nat×Nat}(h:W.heap[b]? =some (.cells c T fr))(i:Nat):W.cell? ⟨b,i,none⟩=c[i]? :=by simp[World.cell?,h]
theorem qK {W:World}{b:Nat}{cs:Array Value}{T:TypeId}(h:W.heap[b]? =some (Obj.cells cs T (0,0))):(∀o,W.cell? ⟨b,o,none⟩=cs[o]?)∧(∀o,W.frozen? ⟨b,o,none⟩=false):=
 ⟨fun o=>qm h o,fun o=>by simp[World.frozen?,h]⟩
structure But (b:Nat)(w w':World):Prop where
 os:w'.os=w.os
 tape:w'.tape=w.tape
 output:w'.output=w.output
 size:w.heap.size≤w'.heap.size
 block: ∀g,g<w.heap.size→g≠b→w'.heap[g]? =w.heap[g]?
namespace But
variable {b:Nat} {w w' w'':World}
theorem refl (b:Nat)(w:World):But b w w:=⟨rfl,rfl,rfl,Nat.le_refl _,fun _ _ _=>rfl⟩
theorem trans (h:But b w w')(k:But b w' w''):But b w w'':=
 ⟨k.os.trans h.os,k.tape.trans h.tape,k.output.trans h.output,Nat.le_trans h.size k.size,fun g o q=>(k.block g (Nat.lt_of_lt_of_le o h.size) q).trans (h.block g o q)⟩
theorem below {n:Nat}(h:But b w w')(o:n≤b)(q:n≤w.heap.size):Below n w w':=⟨h.os,h.tape,h.output,h.size,fun g D=>h.block g (by omega) (by omega)⟩
theorem of_below (h:Below w.heap.size w w'):But b w w':=⟨h.os,h.tape,h.output,h.size,fun g o _=>h.block g o⟩
theorem set (o:Nat)(v:Value)(h:But b w w'):But b w (w'.setCell ⟨b,o,none⟩ v):=
 h.trans ⟨rfl,rfl,rfl,by simp,fun g _ q=>Below.heap_setCell _ _ _ _ q⟩
theorem alloc (o:Obj)(h:But b w w'):But b w (w'.alloc o):=h.trans (of_below (Br.alloc Nl _))
theorem drewN (n:Nat)(h:But b w w'):But b w (w'.drewN n):=h.trans ⟨rfl,rfl,rfl,Nat.le_refl _,fun _ _ _=>rfl⟩
end But
def qg (k:IntKind)(L:List Int):Array Value:=(L.map fun z=>Value.int k z).toArray
theorem qz {k:IntKind}{N n:Nat}{L:List Int}(h:Words N n L){i:Nat}(o:i<n):(qg k L)[i]? =some (.int k (wd L i)):=by
 simp[qg,wd,Lg,List.getElem?_eq_getElem (show i<L.length by rw[h.1];exact o)]
theorem qY {k:IntKind}{L:List Int}{i:Nat}{x:Int}:(qg k L).setIfInBounds i (.int k x)=qg k (L.set i x):=by
 simp[qg,List.map_set]
theorem w_of (N:Nat)(k:IntKind)(o: ∀z,k.wrap z=z%2^N)(a b c:Int):k.wrap (a+k.wrap (b+c))=(a+b+c)%2^N:=by
 rw[o,o,Int.add_emod,Int.emod_emod,←Int.add_emod,Int.add_assoc]
theorem qh4 (N:Nat)(k:IntKind)(o: ∀z,k.wrap z=z%2^N)(a b c:Int):k.wrap (k.wrap (a+b)+c)=(a+b+c)%2^N:=by
 rw[o,o,Int.add_emod,Int.emod_emod,←Int.add_emod]
theorem qhI {L:List Int}{a b c d:Nat}(O:a≠b)(S:a≠c)(J:a≠d)(o:b≠c)(G:b≠d)(D:c≠d)(A1 D1 C1 B1 Z X V B2:Int):
  (((((((L.set a A1).set d D1).set c C1).set b B1).set a Z).set d X).set c V).set b B2=(((L.set a Z).set d X).set c V).set b B2:=by
 apply List.ext_getElem?
 intro i;by_cases q:i=b
 ·subst q;simp[List.getElem?_set,Ne.symm O,Ne.symm o,Ne.symm G,O,o,G]
 by_cases I:i=c
 ·subst I;simp[List.getElem?_set,Ne.symm q,D,Ne.symm D,S,Ne.symm S,o]
 by_cases U:i=d
 ·subst U;simp[List.getElem?_set,Ne.symm q,Ne.symm I,J,Ne.symm J,G,D]
 by_cases Y:i=a
 ·subst Y;simp[List.getElem?_set,Ne.symm q,Ne.symm I,Ne.symm U]
 ·simp[List.getElem?_set,Ne.symm q,Ne.symm I,Ne.symm U,Ne.symm Y]
theorem jM (N:Nat)(z:Int):0≤z%2^N∧z%2^N<2^N:=
 ⟨Int.emod_nonneg _ (Int.ne_of_gt (Int.pow_pos (by decide))),Int.emod_lt_of_pos _ (Int.pow_pos (by decide))⟩
theorem qT (o:BinOp)(k:IntKind)(N:Nat)(q: ∀z,k.wrap z=z%2^N)(x y:Int):0≤bits o k x y∧bits o k x y<2^N:=by
 unfold bits;simp only[q];exact jM N _
theorem qj {P:Program}{c:Code}{Q:Exit→Act→World→Prop}{a:Act}{w:World}(h: ∀W,W=w→Code.wp P c Q a W):Code.wp P c Q a w:=h w rfl
theorem qce {L:List Int}{i j:Nat}{x:Int}(h:i<L.length):wd (L.set i x) j=if i=j then x else wd L j:=by
 unfold wd;by_cases e:i=j
 ·subst e;simp[h]
 ·simp[e,Lg,List.getElem?_set]
structure At4 (k:IntKind)(b:Nat)(T:TypeId)(pa pb pc pd:Nat)(w0:World)(L:List Int)(va vb vc vd:Int)(w:World):Prop where
 heap:w.heap[b]? =some (.cells (qg k L) T (0,0))
 len:L.length=16
 ea:wd L pa=va
 eb:wd L pb=vb
 ec:wd L pc=vc
 ed:wd L pd=vd
 lt:pa<16∧pb<16∧pc<16∧pd<16
 ne:pa≠pb∧pa≠pc∧pa≠pd∧pb≠pc∧pb≠pd∧pc≠pd
 but:But b w0 w
namespace At4
variable {k:IntKind} {b:Nat} {T:TypeId} {pa pb pc pd:Nat} {w0:World} {L:List Int} {va vb vc vd:Int} {w:World}
theorem facts (h:At4 k b T pa pb pc pd w0 L va vb vc vd w):w.cell? ⟨b,pa,none⟩=some (.int k va)∧w.cell? ⟨b,pb,none⟩=some (.int k vb)∧w.cell? ⟨b,pc,none⟩=some (.int k vc)∧w.cell? ⟨b,pd,none⟩=some (.int k vd)∧(∀o,w.frozen? ⟨b,o,none⟩=false)∧b<w.heap.size:=by
 have at_: ∀i,i<16→w.cell? ⟨b,i,none⟩=some (.int k (wd L i)):=fun i q=>by
  rw[qm h.heap];simp[qg,wd,Lg,List.getElem?_eq_getElem (show i<L.length by rw[h.len];exact q)]
 exact⟨h.ea▸at_ pa h.lt.1,h.eb▸at_ pb h.lt.2.1,h.ec▸at_ pc h.lt.2.2.1,h.ed▸at_ pd h.lt.2.2.2,(qK h.heap).2,(Ai h.heap).1⟩
theorem setA (h:At4 k b T pa pb pc pd w0 L va vb vc vd w)(n:Nat)(x:Int):At4 k b T pa pb pc pd w0 (L.set pa x) x vb vc vd ((w.drewN n).setCell ⟨b,pa,none⟩ (.int k x)):=by
 obtain⟨I,D,U,O,S,J,G,o,q⟩:=h;refine⟨by rw[←qY];exact block_setCell (w:=w.drewN n) I _,by simpa using D,?_,?_,?_,?_,G,o,(q.drewN n).set _ _⟩<;>rw[qce (by omega)]
 ·simp
 ·rw[if_neg o.1,O]
 ·rw[if_neg o.2.1,S]
 ·rw[if_neg o.2.2.1,J]
theorem setB (h:At4 k b T pa pb pc pd w0 L va vb vc vd w)(n:Nat)(x:Int):At4 k b T pa pb pc pd w0 (L.set pb x) va x vc vd ((w.drewN n).setCell ⟨b,pb,none⟩ (.int k x)):=by
 obtain⟨I,D,O,U,S,J,G,o,q⟩:=h;refine⟨by rw[←qY];exact block_setCell (w:=w.drewN n) I _,by simpa using D,?_,?_,?_,?_,G,o,(q.drewN n).set _ _⟩<;>rw[qce (by omega)]
 ·rw[if_neg (Ne.symm o.1),O]
 ·simp
 ·rw[if_neg o.2.2.2.1,S]
 ·rw[if_neg o.2.2.2.2.1,J]
theorem setC (h:At4 k b T pa pb pc pd w0 L va vb vc vd w)(n:Nat)(x:Int):At4 k b T pa pb pc pd w0 (L.set pc x) va vb x vd ((w.drewN n).setCell ⟨b,pc,none⟩ (.int k x)):=by
 obtain⟨I,D,O,S,U,J,G,o,q⟩:=h;refine⟨by rw[←qY];exact block_setCell (w:=w.drewN n) I _,by simpa using D,?_,?_,?_,?_,G,o,(q.drewN n).set _ _⟩<;>rw[qce (by omega)]
 ·rw[if_neg (Ne.symm o.2.1),O]
 ·rw[if_neg (Ne.symm o.2.2.2.1),S]
 ·simp
 ·rw[if_neg o.2.2.2.2.2,J]
theorem setD (h:At4 k b T pa pb pc pd w0 L va vb vc vd w)(n:Nat)(x:Int):At4 k b T pa pb pc pd w0 (L.set pd x) va vb vc x ((w.drewN n).setCell ⟨b,pd,none⟩ (.int k x)):=by
 obtain⟨I,D,J,O,S,U,G,o,q⟩:=h;refine⟨by rw[←qY];exact block_setCell (w:=w.drewN n) I _,by simpa using D,?_,?_,?_,?_,G,o,(q.drewN n).set _ _⟩<;>rw[qce (by omega)]
 ·rw[if_neg (Ne.symm o.2.2.1),J]
 ·rw[if_neg (Ne.symm o.2.2.2.2.1),O]
 ·rw[if_neg (Ne.symm o.2.2.2.2.2),S]
 ·simp
theorem alloc (h:At4 k b T pa pb pc pd w0 L va vb vc vd w)(o:Obj):At4 k b T pa pb pc pd w0 L va vb vc vd (w.alloc o):=
 ⟨(Bh _ _ _ (Ai h.heap).1).trans h.heap,h.len,h.ea,h.eb,h.ec,h.ed,h.lt,h.ne,h.but.alloc o⟩
theorem drew (h:At4 k b T pa pb pc pd w0 L va vb vc vd w)(n:Nat):At4 k b T pa pb pc pd w0 L va vb vc vd (w.drewN n):=⟨h.heap,h.len,h.ea,h.eb,h.ec,h.ed,h.lt,h.ne,h.but.drewN n⟩
theorem letter (h:At4 k b T pa pb pc pd w0 L va vb vc vd w){W:World}(e:W=w):At4 k b T pa pb pc pd w0 L va vb vc vd W:=e▸h
end At4
theorem yA (b:Nat)(L:List Int)(hL:Words 64 16 L)(pa pb pc pd:Nat)(ha:pa<16)(hb:pb<16)(hc:pc<16)(hd:pd<16)(ai:pa≠pb)(aj:pa≠pc)(af:pa≠pd)(ac:pb≠pc)(ad:pb≠pd)(aa:pc≠pd)
  (x y:Int) (T:TypeId) (w:World) (hw:w.heap[b]? =some (.cells (qg .u64 L) T (0,0))):
  Calls Tryz.prog 229 #[.pointer (some ⟨b,0,none⟩),.agg #[.int .i64 pa,.int .i64 pb,.int .i64 pc,.int .i64 pd],.int .u64 x,.int .u64 y] w fun e w'=>e= .returned (.tuple #[])∧w'.heap[b]? =some (.cells (qg .u64 (mixBig.step L pa pb pc pd x y)) T (0,0))∧But b w w':=by
 have ap:b<w.heap.size:=(Ai hw).1;have h0:At4 .u64 b T pa pb pc pd w L (wd L pa) (wd L pb) (wd L pc) (wd L pd) w:=⟨hw,hL.1,rfl,rfl,rfl,rfl,⟨ha,hb,hc,hd⟩,⟨ai,aj,af,ac,ad,aa⟩,But.refl _ _⟩;clear hw;have U: ∀z,IntKind.u64.wrap z=z%2^64:=fun z=>IntKind.wrap_u64 z
 obtain⟨A1,al⟩:=Ex (IntKind.u64.wrap (wd L pa+IntKind.u64.wrap (wd L pb+x)));obtain⟨X1,ae⟩:=Ex (bits BinOp.xor .u64 (wd L pd) A1);obtain⟨D1,Z⟩:=Ex (QY 64 32 X1);obtain⟨C1,an⟩:=Ex (IntKind.u64.wrap (wd L pc+D1));obtain⟨X2,ah⟩:=Ex (bits BinOp.xor .u64 (wd L pb) C1);obtain⟨B1,Y⟩:=Ex (QY 64 24 X2);obtain⟨A2,ak⟩:=Ex (IntKind.u64.wrap (A1+IntKind.u64.wrap (B1+y)));obtain⟨X3,ab⟩:=Ex (bits BinOp.xor .u64 D1 A2);obtain⟨D2,X⟩:=Ex (QY 64 16 X3);obtain⟨C2,ao⟩:=Ex (IntKind.u64.wrap (C1+D2));obtain⟨X4,ag⟩:=Ex (bits BinOp.xor .u64 B1 C2);obtain⟨B2,V⟩:=Ex (QY 64 63 X4);have R1:=hid (fun w=>qgD X1 w (ae▸qT .xor .u64 64 U _ _));have R2:=hid (fun w=>qgE X2 w (ah▸qT .xor .u64 64 U _ _));have R3:=hid (fun w=>qgF X3 w (ab▸qT .xor .u64 64 U _ _));have R4:=hid (fun w=>qgC X4 w (ag▸qT .xor .u64 64 U _ _));have ES:mixBig.step L pa pb pc pd x y=(((L.set pa A2).set pd D2).set pc C2).set pb B2:=by
  have e1:A1=mixBig.a1 (wd L pa) (wd L pb) x:=by rw[←al];exact w_of 64 .u64 U _ _ _
  have e2:D1=mixBig.d1 (wd L pa) (wd L pb) (wd L pd) x:=by rw[←Z,←ae,e1];rfl
  have e3:C1=mixBig.c1 (wd L pa) (wd L pb) (wd L pc) (wd L pd) x:=by rw[←an,e2];exact U _
  have e4:B1=mixBig.b1 (wd L pa) (wd L pb) (wd L pc) (wd L pd) x:=by rw[←Y,←ah,e3];rfl
  have e5:A2=mixBig.a2 (wd L pa) (wd L pb) (wd L pc) (wd L pd) x y:=by rw[←ak,e1,e4];exact w_of 64 .u64 U _ _ _
  have e6:D2=mixBig.d2 (wd L pa) (wd L pb) (wd L pc) (wd L pd) x y:=by rw[←X,←ab,e2,e5];rfl
  have e7:C2=mixBig.c2 (wd L pa) (wd L pb) (wd L pc) (wd L pd) x y:=by rw[←ao,e3,e6];exact U _
  have e8:B2=mixBig.b2 (wd L pa) (wd L pb) (wd L pc) (wd L pd) x y:=by rw[←V,←ag,e4,e7];rfl
  rw[e5,e6,e7,e8];rfl
 have am:=hid ES;rw[Z]at R1;rw[Y]at R2;rw[X]at R3;rw[V]at R4;clear Z Y X V ES U;generalize wd L pa=va at*;generalize wd L pb=vb at*;generalize wd L pc=vc at*;generalize wd L pd=vd at*;go_enter Tryz.func229,Tryz.ntmps229
 go_wp2_with fail
 obtain⟨J,D,I,G,O,S⟩:=h0.facts;go_quiet (fail)
 go_wp2_with fail
 clear J D I G O S;replace h0:=(h0.alloc (.cells #[.int .i64 pa,.int .i64 pb,.int .i64 pc,.int .i64 pd] 330 (0,0))).drew nq
 refine qj ?_;intro W0 q;have H0:=hid (h0.letter q);obtain⟨J,D,I,G,O,S⟩:=H0.out.facts;clear q h0;refine qh (by dsimp only[List.dropLast]) (by rfl) (by rfl) (by kernel_rfl) (by kernel_rfl) (by kernel_rfl) (by kernel_rfl) ?_;repeat(go_big_quiet_step (fail))
 refine wpQuiet_nil ?_;intro _ o;obtain⟨n0,rfl⟩:=o;go_wp2_with fail
 clear J D I G O S;have h1:=H0.out.setA n0 A1;clear H0;refine qj ?_;intro W1 q;have H1:=hid (h1.letter q);obtain⟨J,D,I,G,O,S⟩:=H1.out.facts;clear q h1;refine qh (by dsimp only[List.dropLast]) (by rfl) (by rfl) (by kernel_rfl) (by kernel_rfl) (by kernel_rfl) (by kernel_rfl) ?_;repeat(go_big_quiet_step (exact Calls.quiet_of_same (R1.out _)))
 refine wpQuiet_nil ?_;intro _ o;obtain⟨n1,rfl⟩:=o;go_wp2_with fail
 clear J D I G O S;have h2:=H1.out.setD n1 D1;clear H1;refine qj ?_;intro W2 q;have H2:=hid (h2.letter q);obtain⟨J,D,I,G,O,S⟩:=H2.out.facts;clear q h2;refine qh (by dsimp only[List.dropLast]) (by rfl) (by rfl) (by kernel_rfl) (by kernel_rfl) (by kernel_rfl) (by kernel_rfl) ?_;repeat(go_big_quiet_step (fail))
 refine wpQuiet_nil ?_;intro _ o;obtain⟨n2,rfl⟩:=o;go_wp2_with fail
 clear J D I G O S;have h3:=H2.out.setC n2 C1;clear H2;refine qj ?_;intro W3 q;have H3:=hid (h3.letter q);obtain⟨J,D,I,G,O,S⟩:=H3.out.facts;clear q h3;refine qh (by dsimp only[List.dropLast]) (by rfl) (by rfl) (by kernel_rfl) (by kernel_rfl) (by kernel_rfl) (by kernel_rfl) ?_;repeat(go_big_quiet_step (exact Calls.quiet_of_same (R2.out _)))
 refine wpQuiet_nil ?_;intro _ o;obtain⟨n3,rfl⟩:=o;go_wp2_with fail
 clear J D I G O S;have h4:=H3.out.setB n3 B1;clear H3;refine qj ?_;intro W4 q;have H4:=hid (h4.letter q);obtain⟨J,D,I,G,O,S⟩:=H4.out.facts;clear q h4;refine qh (by dsimp only[List.dropLast]) (by rfl) (by rfl) (by kernel_rfl) (by kernel_rfl) (by kernel_rfl) (by kernel_rfl) ?_;repeat(go_big_quiet_step (fail))
 refine wpQuiet_nil ?_;intro _ o;obtain⟨n4,rfl⟩:=o;go_wp2_with fail
 clear J D I G O S;have h5:=H4.out.setA n4 A2;clear H4;refine qj ?_;intro W5 q;have H5:=hid (h5.letter q);obtain⟨J,D,I,G,O,S⟩:=H5.out.facts;clear q h5;refine qh (by dsimp only[List.dropLast]) (by rfl) (by rfl) (by kernel_rfl) (by kernel_rfl) (by kernel_rfl) (by kernel_rfl) ?_;repeat(go_big_quiet_step (exact Calls.quiet_of_same (R3.out _)))
 refine wpQuiet_nil ?_;intro _ o;obtain⟨n5,rfl⟩:=o;go_wp2_with fail
 clear J D I G O S;have h6:=H5.out.setD n5 D2;clear H5;refine qj ?_;intro W6 q;have H6:=hid (h6.letter q);obtain⟨J,D,I,G,O,S⟩:=H6.out.facts;clear q h6;refine qh (by dsimp only[List.dropLast]) (by rfl) (by rfl) (by kernel_rfl) (by kernel_rfl) (by kernel_rfl) (by kernel_rfl) ?_;repeat(go_big_quiet_step (fail))
 refine wpQuiet_nil ?_;intro _ o;obtain⟨n6,rfl⟩:=o;go_wp2_with fail
 clear J D I G O S;have h7:=H6.out.setC n6 C2;clear H6;refine qj ?_;intro W7 q;have H7:=hid (h7.letter q);obtain⟨J,D,I,G,O,S⟩:=H7.out.facts;clear q h7;refine qh (by dsimp only[List.dropLast]) (by rfl) (by rfl) (by kernel_rfl) (by kernel_rfl) (by kernel_rfl) (by kernel_rfl) ?_;repeat(go_big_quiet_step (exact Calls.quiet_of_same (R4.out _)))
 refine wpQuiet_nil ?_;intro _ o;obtain⟨n7,rfl⟩:=o;go_wp2_with fail
 clear J D I G O S;have h8:=H7.out.setB n7 B2;clear H7;refine bodyPost_end (results_none rfl _ _ _) rfl ⟨rfl,?_,h8.but⟩;rw[am.out,←qhI ai aj af ac ad aa A1 D1 C1 B1];exact h8.heap
theorem yB (b:Nat)(L:List Int)(hL:Words 32 16 L)(pa pb pc pd:Nat)(ha:pa<16)(hb:pb<16)(hc:pc<16)(hd:pd<16)(ai:pa≠pb)(aj:pa≠pc)(af:pa≠pd)(ac:pb≠pc)(ad:pb≠pd)(aa:pc≠pd)
  (x y:Int) (T:TypeId) (w:World) (hw:w.heap[b]? =some (.cells (qg .u32 L) T (0,0))):
  Calls Tryz.prog 231 #[.pointer (some ⟨b,0,none⟩),.int .i64 pa,.int .i64 pb,.int .i64 pc,.int .i64 pd,.int .u32 x,.int .u32 y] w fun e w'=>e= .returned (.tuple #[])∧w'.heap[b]? =some (.cells (qg .u32 (mixSmall.step L pa pb pc pd x y)) T (0,0))∧But b w w':=by
 have ap:b<w.heap.size:=(Ai hw).1;have h0:At4 .u32 b T pa pb pc pd w L (wd L pa) (wd L pb) (wd L pc) (wd L pd) w:=⟨hw,hL.1,rfl,rfl,rfl,rfl,⟨ha,hb,hc,hd⟩,⟨ai,aj,af,ac,ad,aa⟩,But.refl _ _⟩;clear hw;have hm: ∀z,IntKind.u32.wrap z=z%2^32:=fun z=>IntKind.wrap_u32 z
 obtain⟨Z,al⟩:=Ex ((wd L pa+(wd L pb+x))%4294967296);obtain⟨X1,ae⟩:=Ex (bits BinOp.xor .u32 (wd L pd) Z);obtain⟨D1,Y⟩:=Ex (QY 32 16 X1);obtain⟨C1,an⟩:=Ex ((wd L pc+D1)%4294967296);obtain⟨X2,ah⟩:=Ex (bits BinOp.xor .u32 (wd L pb) C1);obtain⟨B1,X⟩:=Ex (QY 32 12 X2);obtain⟨A2,ak⟩:=Ex ((Z+(B1+y))%4294967296);obtain⟨X3,ab⟩:=Ex (bits BinOp.xor .u32 D1 A2);obtain⟨D2,V⟩:=Ex (QY 32 8 X3);obtain⟨C2,ao⟩:=Ex ((C1+D2)%4294967296);obtain⟨X4,ag⟩:=Ex (bits BinOp.xor .u32 B1 C2);obtain⟨B2,U⟩:=Ex (QY 32 7 X4);have R1:=hid (fun w=>qgG X1 w (ae▸qT .xor .u32 32 hm _ _));have R2:=hid (fun w=>qgH X2 w (ah▸qT .xor .u32 32 hm _ _));have R3:=hid (fun w=>qhK X3 w (ab▸qT .xor .u32 32 hm _ _));have R4:=hid (fun w=>qhL X4 w (ag▸qT .xor .u32 32 hm _ _));have ES:mixSmall.step L pa pb pc pd x y=(((L.set pa A2).set pd D2).set pc C2).set pb B2:=by
  have e1:Z=mixSmall.a1 (wd L pa) (wd L pb) x:=by rw[←al];rw[←Int.add_assoc];rfl
  have e2:D1=mixSmall.d1 (wd L pa) (wd L pb) (wd L pd) x:=by rw[←Y,←ae,e1];rfl
  have e3:C1=mixSmall.c1 (wd L pa) (wd L pb) (wd L pc) (wd L pd) x:=by rw[←an,e2];rfl
  have e4:B1=mixSmall.b1 (wd L pa) (wd L pb) (wd L pc) (wd L pd) x:=by rw[←X,←ah,e3];rfl
  have e5:A2=mixSmall.a2 (wd L pa) (wd L pb) (wd L pc) (wd L pd) x y:=by rw[←ak,e1,e4];rw[←Int.add_assoc];rfl
  have e6:D2=mixSmall.d2 (wd L pa) (wd L pb) (wd L pc) (wd L pd) x y:=by rw[←V,←ab,e2,e5];rfl
  have e7:C2=mixSmall.c2 (wd L pa) (wd L pb) (wd L pc) (wd L pd) x y:=by rw[←ao,e3,e6];rfl
  have e8:B2=mixSmall.b2 (wd L pa) (wd L pb) (wd L pc) (wd L pd) x y:=by rw[←U,←ag,e4,e7];rfl
  rw[e5,e6,e7,e8];rfl
 have am:=hid ES;rw[Y]at R1;rw[X]at R2;rw[V]at R3;rw[U]at R4;clear Y X V U ES hm;generalize wd L pa=va at*;generalize wd L pb=vb at*;generalize wd L pc=vc at*;generalize wd L pd=vd at*;go_enter Tryz.func231,Tryz.ntmps231
 go_wp2_with fail
 refine qj ?_;intro W0 q;have H0:=hid (h0.letter q);obtain⟨J,D,I,G,O,S⟩:=H0.out.facts;clear q h0;refine qh (by dsimp only[List.dropLast]) (by rfl) (by rfl) (by kernel_rfl) (by kernel_rfl) (by kernel_rfl) (by kernel_rfl) ?_;repeat(go_big_quiet_step (fail))
 refine wpQuiet_nil ?_;intro _ o;obtain⟨n0,rfl⟩:=o;go_wp2_with fail
 clear J D I G O S;have h1:=H0.out.setA n0 Z;clear H0;refine qj ?_;intro W1 q;have H1:=hid (h1.letter q);obtain⟨J,D,I,G,O,S⟩:=H1.out.facts;clear q h1;refine qh (by dsimp only[List.dropLast]) (by rfl) (by rfl) (by kernel_rfl) (by kernel_rfl) (by kernel_rfl) (by kernel_rfl) ?_;repeat(go_big_quiet_step (exact Calls.quiet_of_same (R1.out _)))
 refine wpQuiet_nil ?_;intro _ o;obtain⟨n1,rfl⟩:=o;go_wp2_with fail
 clear J D I G O S;have h2:=H1.out.setD n1 D1;clear H1;refine qj ?_;intro W2 q;have H2:=hid (h2.letter q);obtain⟨J,D,I,G,O,S⟩:=H2.out.facts;clear q h2;refine qh (by dsimp only[List.dropLast]) (by rfl) (by rfl) (by kernel_rfl) (by kernel_rfl) (by kernel_rfl) (by kernel_rfl) ?_;repeat(go_big_quiet_step (fail))
 refine wpQuiet_nil ?_;intro _ o;obtain⟨n2,rfl⟩:=o;go_wp2_with fail
 clear J D I G O S;have h3:=H2.out.setC n2 C1;clear H2;refine qj ?_;intro W3 q;have H3:=hid (h3.letter q);obtain⟨J,D,I,G,O,S⟩:=H3.out.facts;clear q h3;refine qh (by dsimp only[List.dropLast]) (by rfl) (by rfl) (by kernel_rfl) (by kernel_rfl) (by kernel_rfl) (by kernel_rfl) ?_;repeat(go_big_quiet_step (exact Calls.quiet_of_same (R2.out _)))
 refine wpQuiet_nil ?_;intro _ o;obtain⟨n3,rfl⟩:=o;go_wp2_with fail
 clear J D I G O S;have h4:=H3.out.setB n3 B1;clear H3;refine qj ?_;intro W4 q;have H4:=hid (h4.letter q);obtain⟨J,D,I,G,O,S⟩:=H4.out.facts;clear q h4;refine qh (by dsimp only[List.dropLast]) (by rfl) (by rfl) (by kernel_rfl) (by kernel_rfl) (by kernel_rfl) (by kernel_rfl) ?_;repeat(go_big_quiet_step (fail))
 refine wpQuiet_nil ?_;intro _ o;obtain⟨n4,rfl⟩:=o;go_wp2_with fail
 clear J D I G O S;have h5:=H4.out.setA n4 A2;clear H4;refine qj ?_;intro W5 q;have H5:=hid (h5.letter q);obtain⟨J,D,I,G,O,S⟩:=H5.out.facts;clear q h5;refine qh (by dsimp only[List.dropLast]) (by rfl) (by rfl) (by kernel_rfl) (by kernel_rfl) (by kernel_rfl) (by kernel_rfl) ?_;repeat(go_big_quiet_step (exact Calls.quiet_of_same (R3.out _)))
 refine wpQuiet_nil ?_;intro _ o;obtain⟨n5,rfl⟩:=o;go_wp2_with fail
 clear J D I G O S;have h6:=H5.out.setD n5 D2;clear H5;refine qj ?_;intro W6 q;have H6:=hid (h6.letter q);obtain⟨J,D,I,G,O,S⟩:=H6.out.facts;clear q h6;refine qh (by dsimp only[List.dropLast]) (by rfl) (by rfl) (by kernel_rfl) (by kernel_rfl) (by kernel_rfl) (by kernel_rfl) ?_;repeat(go_big_quiet_step (fail))
 refine wpQuiet_nil ?_;intro _ o;obtain⟨n6,rfl⟩:=o;go_wp2_with fail
 clear J D I G O S;have h7:=H6.out.setC n6 C2;clear H6;refine qj ?_;intro W7 q;have H7:=hid (h7.letter q);obtain⟨J,D,I,G,O,S⟩:=H7.out.facts;clear q h7;refine qh (by dsimp only[List.dropLast]) (by rfl) (by rfl) (by kernel_rfl) (by kernel_rfl) (by kernel_rfl) (by kernel_rfl) ?_;repeat(go_big_quiet_step (exact Calls.quiet_of_same (R4.out _)))
 refine wpQuiet_nil ?_;intro _ o;obtain⟨n7,rfl⟩:=o;go_wp2_with fail
 clear J D I G O S;have h8:=H7.out.setB n7 B2;clear H7;refine bodyPost_end (results_none rfl _ _ _) rfl ⟨rfl,?_,h8.but⟩;rw[am.out,←qhI ai aj af ac ad aa Z D1 C1 B1];exact h8.heap
end Go.Proofs.YthjoojnlnlmljaaGreat
