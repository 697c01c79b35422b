/- Lemmas. No condition. -/
import Derived.Test.YtahenngmaoellaaGreatO02
import Derived.Test.YtahenngmaoellaaGreatO16
import Derived.Lib.EndianBits
import Derived.Test.YtahenngmaoellaaGreatO14
set_option linter.all false
set_option maxRecDepth 100000
set_option maxHeartbeats 0
namespace Go.Proofs.YtahenngmaoellaaGreat
open Go.ChangeShapes Go.WideShapes Go.ChangeAt Go.RowKit Go.Joins
open Go.Lib (hid)
variable{k:IntKind}{W:World}{b n i:Nat}{T:TypeId}{L:List Int}{x:Int}
attribute [local go_sem] Oper.semAt_some
theorem qir (j r:Nat)(o:r<=j)(x:Int):x*2^(j - r)%2^j=x%2^r*2^(j - r):=by
 have e:(2:Int)^j=2^r*2^(j - r):=by rw[<-Int.pow_add,show r+(j - r)=j by omega]
 rw[e,Int.mul_comm x,Int.mul_comm (2^r),Int.mul_emod_mul_of_pos _ _ (Int.pow_pos (by decide)),Int.mul_comm]
theorem qdL (k:IntKind)(j r:Nat)(X:j<=k.bits)(I: ∀n:Int,0<=n->n<2^j->k.wrap n=n)(G: ∀z,k.wrap z=z%2^j)(D:r<=j)(x:Int)(q:0<=x/\x<2^j):
  bits .or k (x/2^r) (k.wrap (x*2^(j - r)))=yo j r x:=by
 have o:(0:Int)<2^r:=Int.pow_pos (by decide);have J:(0:Int)<2^(j - r):=Int.pow_pos (by decide);have e:(2:Int)^j=2^r*2^(j - r):=by rw[<-Int.pow_add,show r+(j - r)=j by omega]
 have V:=jy D q;have U:=Int.emod_nonneg x (Int.ne_of_gt o);have S:=Int.ediv_nonneg q.1 (Int.le_of_lt o);have d1:x/2^r<2^(j - r):=Int.ediv_lt_of_lt_mul o (by rw[Int.mul_comm,<-e];exact q.2);have O:0<=x%2^r*2^(j - r):=Int.mul_nonneg U (Int.le_of_lt J);unfold yo at V⊢;rw[G,qir j r D];exact bits_join_low k j X I (j - r) _ _ S d1 (by omega) O (Int.mul_emod_left _ _) (by omega)
theorem qeF (k:IntKind)(j r:Nat)(G:j<=k.bits)(D: ∀n:Int,0<=n->n<2^j->k.wrap n=n)(o: ∀z,k.wrap z=z%2^j)(q:r<=j)(x:Int)(I:0<=x/\x<2^j):
  bits .or k (k.wrap (x*2^(j - r))) (x/2^r)=yo j r x:=by
 rw[<-qdL k j r G D o q x I];simp only[bits,BitVec.or_comm]
theorem qaq (n:Int)(q:0<=n)(o:n<2^32):IntKind.u32.wrap n=n:=by rw[IntKind.wrap_u32];omega
theorem jW (r:Nat)(o:r<=64)(x:Int)(q:0<=x/\x<2^64):bits .or .u64 (x/2^r) (IntKind.u64.wrap (x*2^(64 - r)))=yo 64 r x:=qdL .u64 64 r (by decide) wraps_u64 (fun z=>IntKind.wrap_u64 z) o x q
theorem ZW (r:Nat)(o:r<=64)(x:Int)(q:0<=x/\x<2^64):bits .or .u64 (IntKind.u64.wrap (x*2^(64 - r))) (x/2^r)=yo 64 r x:=qeF .u64 64 r (by decide) wraps_u64 (fun z=>IntKind.wrap_u64 z) o x q
theorem jX (r:Nat)(o:r<=32)(x:Int)(q:0<=x/\x<2^32):bits .or .u32 (x/2^r) (IntKind.u32.wrap (x*2^(32 - r)))=yo 32 r x:=qdL .u32 32 r (by decide) qaq (fun z=>IntKind.wrap_u32 z) o x q
theorem ZX (r:Nat)(o:r<=32)(x:Int)(q:0<=x/\x<2^32):bits .or .u32 (IntKind.u32.wrap (x*2^(32 - r))) (x/2^r)=yo 32 r x:=qeF .u32 32 r (by decide) qaq (fun z=>IntKind.wrap_u32 z) o x q
theorem Y4 {a b:Int}(h:a=b):Ending.returned (.int k a)= .returned (.int k b):=by rw[h]
theorem qiB (x:Int)(w:World)(o:0<=x/\x<2^64):Calls Tryz.prog 243 #[.int .u64 x,.int .i64 (-32)] w fun e w'=>e= .returned (.int .u64 (yo 64 32 x))/\w'=w:=by
 have q:=hid (Y4 (k:= .u64) (ZW 32 (by decide) x o));have r:bits BinOp.and IntKind.u64 (IntKind.u64.wrap (-32)) 63=32:=by decide
 go_enter Tryz.func243,Tryz.ntmps243
 go_wp2
 go_ret
 exact⟨q.out,rfl⟩
theorem qiC (x:Int)(w:World)(o:0<=x/\x<2^64):Calls Tryz.prog 243 #[.int .u64 x,.int .i64 (-24)] w fun e w'=>e= .returned (.int .u64 (yo 64 24 x))/\w'=w:=by
 have q:=hid (Y4 (k:= .u64) (ZW 24 (by decide) x o));have r:bits BinOp.and IntKind.u64 (IntKind.u64.wrap (-24)) 63=40:=by decide
 go_enter Tryz.func243,Tryz.ntmps243
 go_wp2
 go_ret
 exact⟨q.out,rfl⟩
theorem qiD (x:Int)(w:World)(o:0<=x/\x<2^64):Calls Tryz.prog 243 #[.int .u64 x,.int .i64 (-16)] w fun e w'=>e= .returned (.int .u64 (yo 64 16 x))/\w'=w:=by
 have q:=hid (Y4 (k:= .u64) (ZW 16 (by decide) x o));have r:bits BinOp.and IntKind.u64 (IntKind.u64.wrap (-16)) 63=48:=by decide
 go_enter Tryz.func243,Tryz.ntmps243
 go_wp2
 go_ret
 exact⟨q.out,rfl⟩
theorem qiA (x:Int)(w:World)(o:0<=x/\x<2^64):Calls Tryz.prog 243 #[.int .u64 x,.int .i64 (-63)] w fun e w'=>e= .returned (.int .u64 (yo 64 63 x))/\w'=w:=by
 have q:=hid (Y4 (k:= .u64) (ZW 63 (by decide) x o));have r:bits BinOp.and IntKind.u64 (IntKind.u64.wrap (-63)) 63=1:=by decide
 go_enter Tryz.func243,Tryz.ntmps243
 go_wp2
 go_ret
 exact⟨q.out,rfl⟩
theorem qiE (x:Int)(w:World)(o:0<=x/\x<2^32):Calls Tryz.prog 244 #[.int .u32 x,.int .i64 (-16)] w fun e w'=>e= .returned (.int .u32 (yo 32 16 x))/\w'=w:=by
 have q:=hid (Y4 (k:= .u32) (ZX 16 (by decide) x o));have r:bits BinOp.and IntKind.u64 (IntKind.u64.wrap (-16)) 31=16:=by decide
 go_enter Tryz.func244,Tryz.ntmps244
 go_wp2
 go_ret
 exact⟨q.out,rfl⟩
theorem qiF (x:Int)(w:World)(o:0<=x/\x<2^32):Calls Tryz.prog 244 #[.int .u32 x,.int .i64 (-12)] w fun e w'=>e= .returned (.int .u32 (yo 32 12 x))/\w'=w:=by
 have q:=hid (Y4 (k:= .u32) (ZX 12 (by decide) x o));have r:bits BinOp.and IntKind.u64 (IntKind.u64.wrap (-12)) 31=20:=by decide
 go_enter Tryz.func244,Tryz.ntmps244
 go_wp2
 go_ret
 exact⟨q.out,rfl⟩
theorem qjN (x:Int)(w:World)(o:0<=x/\x<2^32):Calls Tryz.prog 244 #[.int .u32 x,.int .i64 (-8)] w fun e w'=>e= .returned (.int .u32 (yo 32 8 x))/\w'=w:=by
 have q:=hid (Y4 (k:= .u32) (ZX 8 (by decide) x o));have r:bits BinOp.and IntKind.u64 (IntKind.u64.wrap (-8)) 31=24:=by decide
 go_enter Tryz.func244,Tryz.ntmps244
 go_wp2
 go_ret
 exact⟨q.out,rfl⟩
theorem qjO (x:Int)(w:World)(o:0<=x/\x<2^32):Calls Tryz.prog 244 #[.int .u32 x,.int .i64 (-7)] w fun e w'=>e= .returned (.int .u32 (yo 32 7 x))/\w'=w:=by
 have q:=hid (Y4 (k:= .u32) (ZX 7 (by decide) x o));have r:bits BinOp.and IntKind.u64 (IntKind.u64.wrap (-7)) 31=25:=by decide
 go_enter Tryz.func244,Tryz.ntmps244
 go_wp2
 go_ret
 exact⟨q.out,rfl⟩
theorem ZM (n m:Nat)(w:World)(q:0<m):Calls Tryz.prog 240 #[.int .i64 n,.int .i64 m] w fun e w'=>e= .returned (.int .i64 ((n%m:Nat):Int))/\w'=w:=by
 have r:((m:Int)==0)=false:=by rw[beq_eq_false_iff_ne];omega
 have D:((m:Int)=0)=False:=by simp;omega
 have o:=hid (Y4 (k:= .i64) (show(n:Int)%(m:Int)=((n%m:Nat):Int) from rfl));go_enter Tryz.func240,Tryz.ntmps240
 go_wp2_with fail
 go_ret
 exact⟨o.out,rfl⟩
theorem qhs (x:Int)(w:World)(o:0<=x/\x<2^64):Calls Tryz.prog 238 #[.int .u64 x,.int .i64 32] w fun e w'=>e= .returned (.int .u64 (yo 64 32 x))/\ ∃m,w'=w.drewN m:=by
 have q:=hid (Y4 (k:= .u64) (jW 32 (by decide) x o));have r:=hid (ZM 32 64 w (by decide));go_enter Tryz.func238,Tryz.ntmps238
 go_wp2_with fail
 refine r.out.mono ?_;rintro e w1 ⟨rfl,rfl⟩;go_wp2
 go_quiet (fail)
 go_wp2
 go_ret
 exact⟨q.out,nq,rfl⟩
theorem qht (x:Int)(w:World)(o:0<=x/\x<2^64):Calls Tryz.prog 238 #[.int .u64 x,.int .i64 24] w fun e w'=>e= .returned (.int .u64 (yo 64 24 x))/\ ∃m,w'=w.drewN m:=by
 have q:=hid (Y4 (k:= .u64) (jW 24 (by decide) x o));have r:=hid (ZM 24 64 w (by decide));go_enter Tryz.func238,Tryz.ntmps238
 go_wp2_with fail
 refine r.out.mono ?_;rintro e w1 ⟨rfl,rfl⟩;go_wp2
 go_quiet (fail)
 go_wp2
 go_ret
 exact⟨q.out,nq,rfl⟩
theorem qhu (x:Int)(w:World)(o:0<=x/\x<2^64):Calls Tryz.prog 238 #[.int .u64 x,.int .i64 16] w fun e w'=>e= .returned (.int .u64 (yo 64 16 x))/\ ∃m,w'=w.drewN m:=by
 have q:=hid (Y4 (k:= .u64) (jW 16 (by decide) x o));have r:=hid (ZM 16 64 w (by decide));go_enter Tryz.func238,Tryz.ntmps238
 go_wp2_with fail
 refine r.out.mono ?_;rintro e w1 ⟨rfl,rfl⟩;go_wp2
 go_quiet (fail)
 go_wp2
 go_ret
 exact⟨q.out,nq,rfl⟩
theorem qhr (x:Int)(w:World)(o:0<=x/\x<2^64):Calls Tryz.prog 238 #[.int .u64 x,.int .i64 63] w fun e w'=>e= .returned (.int .u64 (yo 64 63 x))/\ ∃m,w'=w.drewN m:=by
 have q:=hid (Y4 (k:= .u64) (jW 63 (by decide) x o));have r:=hid (ZM 63 64 w (by decide));go_enter Tryz.func238,Tryz.ntmps238
 go_wp2_with fail
 refine r.out.mono ?_;rintro e w1 ⟨rfl,rfl⟩;go_wp2
 go_quiet (fail)
 go_wp2
 go_ret
 exact⟨q.out,nq,rfl⟩
theorem qhv (x:Int)(w:World)(o:0<=x/\x<2^32):Calls Tryz.prog 242 #[.int .u32 x,.int .i64 16] w fun e w'=>e= .returned (.int .u32 (yo 32 16 x))/\w'=w:=by
 have q:=hid (Y4 (k:= .u32) (jX 16 (by decide) x o));go_enter Tryz.func242,Tryz.ntmps242
 go_wp2
 go_ret
 exact⟨q.out,rfl⟩
theorem qhw (x:Int)(w:World)(o:0<=x/\x<2^32):Calls Tryz.prog 242 #[.int .u32 x,.int .i64 12] w fun e w'=>e= .returned (.int .u32 (yo 32 12 x))/\w'=w:=by
 have q:=hid (Y4 (k:= .u32) (jX 12 (by decide) x o));go_enter Tryz.func242,Tryz.ntmps242
 go_wp2
 go_ret
 exact⟨q.out,rfl⟩
theorem qik (x:Int)(w:World)(o:0<=x/\x<2^32):Calls Tryz.prog 242 #[.int .u32 x,.int .i64 8] w fun e w'=>e= .returned (.int .u32 (yo 32 8 x))/\w'=w:=by
 have q:=hid (Y4 (k:= .u32) (jX 8 (by decide) x o));go_enter Tryz.func242,Tryz.ntmps242
 go_wp2
 go_ret
 exact⟨q.out,rfl⟩
theorem qil (x:Int)(w:World)(o:0<=x/\x<2^32):Calls Tryz.prog 242 #[.int .u32 x,.int .i64 7] w fun e w'=>e= .returned (.int .u32 (yo 32 7 x))/\w'=w:=by
 have q:=hid (Y4 (k:= .u32) (jX 7 (by decide) x o));go_enter Tryz.func242,Tryz.ntmps242
 go_wp2
 go_ret
 exact⟨q.out,rfl⟩
theorem qq {c:Array Value}{fr:Nat×Nat}(h:W.heap[b]? =some (.cells c T fr))(i:Nat):W.cell? ⟨b,i,none⟩=c[i]? :=by simp[World.cell?,h]
theorem qR {cs:Array Value}(h:W.heap[b]? =some (Obj.cells cs T (0,0))):(∀o,W.cell? ⟨b,o,none⟩=cs[o]?)/\(∀o,W.frozen? ⟨b,o,none⟩=false):=
 ⟨fun o=>qq h o,fun o=>by simp[World.frozen?,h]⟩
structure But (b:Nat)(w w':World):Prop where
 os:w'.os=w.os
 tape:w'.tape=w.tape
 output:w'.output=w.output
 size:w.heap.size<=w'.heap.size
 block: ∀g,g<w.heap.size->g≠b->w'.heap[g]? =w.heap[g]?
namespace But
variable {b:Nat} {w w' w'':World}
theorem refl (b:Nat)(w:World):But b w w:=⟨rfl,rfl,rfl,Nat.le_refl _,fun _ _ _=>rfl⟩
theorem trans (h:But b w w')(k:But b w' w''):But b w w'':=
 ⟨k.os.trans h.os,k.tape.trans h.tape,k.output.trans h.output,Nat.le_trans h.size k.size,fun g q o=>(k.block g (Nat.lt_of_lt_of_le q h.size) o).trans (h.block g q o)⟩
theorem below (h:But b w w')(o:n<=b)(q:n<=w.heap.size):Below n w w':=⟨h.os,h.tape,h.output,h.size,fun g r=>h.block g (by omega) (by omega)⟩
theorem of_below (h:Below w.heap.size w w'):But b w w':=⟨h.os,h.tape,h.output,h.size,fun g o _=>h.block g o⟩
theorem set (o:Nat)(v:Value)(h:But b w w'):But b w (w'.setCell ⟨b,o,none⟩ v):=
 h.trans ⟨rfl,rfl,rfl,by simp,fun g _ q=>Below.heap_setCell _ _ _ _ q⟩
theorem alloc (o:Obj)(h:But b w w'):But b w (w'.alloc o):=h.trans (of_below (Br.alloc Nl _))
theorem drewN (n:Nat)(h:But b w w'):But b w (w'.drewN n):=h.trans ⟨rfl,rfl,rfl,Nat.le_refl _,fun _ _ _=>rfl⟩
end But
def qj (k:IntKind)(L:List Int):Array Value:=(L.map fun z=>Value.int k z).toArray
theorem qF {N:Nat}(h:Words N n L)(hi:i<n):(qj k L)[i]? =some (.int k (wd L i)):=by
 simp[qj,wd,Lg,List.getElem?_eq_getElem (show i<L.length by rw[h.1];exact hi)]
theorem Qk :(qj k L).setIfInBounds i (.int k x)=qj k (L.set i x):=by
 simp[qj,List.map_set]
theorem w_of (N:Nat)(k:IntKind)(o: ∀z,k.wrap z=z%2^N)(a b c:Int):k.wrap (a+k.wrap (b+c))=(a+b+c)%2^N:=by
 rw[o,o,Int.add_emod,Int.emod_emod,<-Int.add_emod,Int.add_assoc]
theorem qkd (N:Nat)(k:IntKind)(o: ∀z,k.wrap z=z%2^N)(a b c:Int):k.wrap (k.wrap (a+b)+c)=(a+b+c)%2^N:=by
 rw[o,o,Int.add_emod,Int.emod_emod,<-Int.add_emod]
theorem qjK {a c d:Nat}(J:a≠b)(I:a≠c)(O:a≠d)(q:b≠c)(o:b≠d)(r:c≠d)(A1 D1 C1 B1 Y X U V:Int):
  (((((((L.set a A1).set d D1).set c C1).set b B1).set a Y).set d X).set c U).set b V=(((L.set a Y).set d X).set c U).set b V:=by
 apply List.ext_getElem?
 intro i;by_cases D:i=b
 ·subst D;simp[List.getElem?_set,Ne.symm J,Ne.symm q,Ne.symm o,J,q,o]
 by_cases G:i=c
 ·subst G;simp[List.getElem?_set,Ne.symm D,r,Ne.symm r,I,Ne.symm I,q]
 by_cases S:i=d
 ·subst S;simp[List.getElem?_set,Ne.symm D,Ne.symm G,O,Ne.symm O,o,r]
 by_cases Z:i=a
 ·subst Z;simp[List.getElem?_set,Ne.symm D,Ne.symm G,Ne.symm S]
 ·simp[List.getElem?_set,Ne.symm D,Ne.symm G,Ne.symm S,Ne.symm Z]
theorem JQ (N:Nat)(z:Int):0<=z%2^N/\z%2^N<2^N:=
 ⟨Int.emod_nonneg _ (Int.ne_of_gt (Int.pow_pos (by decide))),Int.emod_lt_of_pos _ (Int.pow_pos (by decide))⟩
theorem Qe (o:BinOp)(k:IntKind)(N:Nat)(q: ∀z,k.wrap z=z%2^N)(x y:Int):0<=bits o k x y/\bits o k x y<2^N:=by
 unfold bits;simp only[q];exact JQ N _
theorem qm {P:Program}{c:Code}{Q:Exit->Act->World->Prop}{a:Act}{w:World}(h: ∀W,W=w->Code.wp P c Q a W):Code.wp P c Q a w:=h w rfl
theorem qdE {j:Nat}(h:i<L.length):wd (L.set i x) j=if i=j then x else wd L j:=by
 unfold wd;by_cases e:i=j
 ·subst e;simp[h]
 ·simp[e,Lg,List.getElem?_set]
structure At4 (k:IntKind)(b:Nat)(T:TypeId)(pa pb pc pd:Nat)(w0:World)(L:List Int)(va vb vc vd:Int)(w:World):Prop where
 heap:w.heap[b]? =some (.cells (qj k L) T (0,0))
 len:L.length=16
 ea:wd L pa=va
 eb:wd L pb=vb
 ec:wd L pc=vc
 ed:wd L pd=vd
 lt:pa<16/\pb<16/\pc<16/\pd<16
 ne:pa≠pb/\pa≠pc/\pa≠pd/\pb≠pc/\pb≠pd/\pc≠pd
 but:But b w0 w
namespace At4
variable {k:IntKind} {b:Nat} {T:TypeId} {pa pb pc pd:Nat} {w0:World} {L:List Int} {va vb vc vd:Int} {w:World}
theorem facts (h:At4 k b T pa pb pc pd w0 L va vb vc vd w):w.cell? ⟨b,pa,none⟩=some (.int k va)/\w.cell? ⟨b,pb,none⟩=some (.int k vb)/\w.cell? ⟨b,pc,none⟩=some (.int k vc)/\w.cell? ⟨b,pd,none⟩=some (.int k vd)/\(∀o,w.frozen? ⟨b,o,none⟩=false)/\b<w.heap.size:=by
 have at_: ∀i,i<16->w.cell? ⟨b,i,none⟩=some (.int k (wd L i)):=fun i hi=>by
  rw[qq h.heap];simp[qj,wd,Lg,List.getElem?_eq_getElem (show i<L.length by rw[h.len];exact hi)]
 exact⟨h.ea▸at_ pa h.lt.1,h.eb▸at_ pb h.lt.2.1,h.ec▸at_ pc h.lt.2.2.1,h.ed▸at_ pd h.lt.2.2.2,(qR h.heap).2,(Ai h.heap).1⟩
theorem setA (h:At4 k b T pa pb pc pd w0 L va vb vc vd w)(n:Nat)(x:Int):At4 k b T pa pb pc pd w0 (L.set pa x) x vb vc vd ((w.drewN n).setCell ⟨b,pa,none⟩ (.int k x)):=by
 obtain⟨J,r,S,O,I,D,G,o,q⟩:=h;refine⟨by rw[<-Qk];exact block_setCell (w:=w.drewN n) J _,by simpa using r,?_,?_,?_,?_,G,o,(q.drewN n).set _ _⟩<;>rw[qdE (by omega)]
 ·simp
 ·rw[if_neg o.1,O]
 ·rw[if_neg o.2.1,I]
 ·rw[if_neg o.2.2.1,D]
theorem setB (h:At4 k b T pa pb pc pd w0 L va vb vc vd w)(n:Nat)(x:Int):At4 k b T pa pb pc pd w0 (L.set pb x) va x vc vd ((w.drewN n).setCell ⟨b,pb,none⟩ (.int k x)):=by
 obtain⟨J,r,O,S,I,D,G,o,q⟩:=h;refine⟨by rw[<-Qk];exact block_setCell (w:=w.drewN n) J _,by simpa using r,?_,?_,?_,?_,G,o,(q.drewN n).set _ _⟩<;>rw[qdE (by omega)]
 ·rw[if_neg (Ne.symm o.1),O]
 ·simp
 ·rw[if_neg o.2.2.2.1,I]
 ·rw[if_neg o.2.2.2.2.1,D]
theorem setC (h:At4 k b T pa pb pc pd w0 L va vb vc vd w)(n:Nat)(x:Int):At4 k b T pa pb pc pd w0 (L.set pc x) va vb x vd ((w.drewN n).setCell ⟨b,pc,none⟩ (.int k x)):=by
 obtain⟨I,r,J,O,S,D,G,o,q⟩:=h;refine⟨by rw[<-Qk];exact block_setCell (w:=w.drewN n) I _,by simpa using r,?_,?_,?_,?_,G,o,(q.drewN n).set _ _⟩<;>rw[qdE (by omega)]
 ·rw[if_neg (Ne.symm o.2.1),J]
 ·rw[if_neg (Ne.symm o.2.2.2.1),O]
 ·simp
 ·rw[if_neg o.2.2.2.2.2,D]
theorem setD (h:At4 k b T pa pb pc pd w0 L va vb vc vd w)(n:Nat)(x:Int):At4 k b T pa pb pc pd w0 (L.set pd x) va vb vc x ((w.drewN n).setCell ⟨b,pd,none⟩ (.int k x)):=by
 obtain⟨I,r,J,O,G,S,D,o,q⟩:=h;refine⟨by rw[<-Qk];exact block_setCell (w:=w.drewN n) I _,by simpa using r,?_,?_,?_,?_,D,o,(q.drewN n).set _ _⟩<;>rw[qdE (by omega)]
 ·rw[if_neg (Ne.symm o.2.2.1),J]
 ·rw[if_neg (Ne.symm o.2.2.2.2.1),O]
 ·rw[if_neg (Ne.symm o.2.2.2.2.2),G]
 ·simp
theorem alloc (h:At4 k b T pa pb pc pd w0 L va vb vc vd w)(o:Obj):At4 k b T pa pb pc pd w0 L va vb vc vd (w.alloc o):=
 ⟨(Bh _ _ _ (Ai h.heap).1).trans h.heap,h.len,h.ea,h.eb,h.ec,h.ed,h.lt,h.ne,h.but.alloc o⟩
theorem drew (h:At4 k b T pa pb pc pd w0 L va vb vc vd w)(n:Nat):At4 k b T pa pb pc pd w0 L va vb vc vd (w.drewN n):=⟨h.heap,h.len,h.ea,h.eb,h.ec,h.ed,h.lt,h.ne,h.but.drewN n⟩
theorem letter (h:At4 k b T pa pb pc pd w0 L va vb vc vd w)(e:W=w):At4 k b T pa pb pc pd w0 L va vb vc vd W:=e▸h
end At4
theorem Yh (b:Nat)(L:List Int)(hL:Words 64 16 L)(pa pb pc pd:Nat)(ha:pa<16)(hb:pb<16)(hc:pc<16)(hd:pd<16)(af:pa≠pb)(ai:pa≠pc)(aj:pa≠pd)(ah:pb≠pc)(ae:pb≠pd)(ak:pc≠pd)
  (x y:Int) (T:TypeId) (w:World) (hw:w.heap[b]? =some (.cells (qj .u64 L) T (0,0))):
  Calls Tryz.prog 234 #[.pointer (some ⟨b,0,none⟩),.agg #[.int .i64 pa,.int .i64 pb,.int .i64 pc,.int .i64 pd],.int .u64 x,.int .u64 y] w fun e w'=>e= .returned (.tuple #[])/\w'.heap[b]? =some (.cells (qj .u64 (mixBig.step L pa pb pc pd x y)) T (0,0))/\But b w w':=by
 have aq:b<w.heap.size:=(Ai hw).1;have h0:At4 .u64 b T pa pb pc pd w L (wd L pa) (wd L pb) (wd L pc) (wd L pd) w:=⟨hw,hL.1,rfl,rfl,rfl,rfl,⟨ha,hb,hc,hd⟩,⟨af,ai,aj,ah,ae,ak⟩,But.refl _ _⟩;clear hw;have S: ∀z,IntKind.u64.wrap z=z%2^64:=fun z=>IntKind.wrap_u64 z
 obtain⟨V,an⟩:=Ex (IntKind.u64.wrap (wd L pa+IntKind.u64.wrap (wd L pb+x)));obtain⟨X1,ac⟩:=Ex (bits BinOp.xor .u64 (wd L pd) V);obtain⟨U,Z⟩:=Ex (yo 64 32 X1);obtain⟨C1,ao⟩:=Ex (IntKind.u64.wrap (wd L pc+U));obtain⟨X2,ag⟩:=Ex (bits BinOp.xor .u64 (wd L pb) C1);obtain⟨B1,Y⟩:=Ex (yo 64 24 X2);obtain⟨A2,am⟩:=Ex (IntKind.u64.wrap (V+IntKind.u64.wrap (B1+y)));obtain⟨X3,ab⟩:=Ex (bits BinOp.xor .u64 U A2);obtain⟨D2,aa⟩:=Ex (yo 64 16 X3);obtain⟨C2,al⟩:=Ex (IntKind.u64.wrap (C1+D2));obtain⟨X4,ad⟩:=Ex (bits BinOp.xor .u64 B1 C2);obtain⟨B2,X⟩:=Ex (yo 64 63 X4);have R1:=hid (fun w=>qiB X1 w (ac▸Qe .xor .u64 64 S _ _));have R2:=hid (fun w=>qiC X2 w (ag▸Qe .xor .u64 64 S _ _));have R3:=hid (fun w=>qiD X3 w (ab▸Qe .xor .u64 64 S _ _));have R4:=hid (fun w=>qiA X4 w (ad▸Qe .xor .u64 64 S _ _));have ES:mixBig.step L pa pb pc pd x y=(((L.set pa A2).set pd D2).set pc C2).set pb B2:=by
  have e1:V=mixBig.a1 (wd L pa) (wd L pb) x:=by rw[<-an];exact w_of 64 .u64 S _ _ _
  have e2:U=mixBig.d1 (wd L pa) (wd L pb) (wd L pd) x:=by rw[<-Z,<-ac,e1];rfl
  have e3:C1=mixBig.c1 (wd L pa) (wd L pb) (wd L pc) (wd L pd) x:=by rw[<-ao,e2];exact S _
  have e4:B1=mixBig.b1 (wd L pa) (wd L pb) (wd L pc) (wd L pd) x:=by rw[<-Y,<-ag,e3];rfl
  have e5:A2=mixBig.a2 (wd L pa) (wd L pb) (wd L pc) (wd L pd) x y:=by rw[<-am,e1,e4];exact w_of 64 .u64 S _ _ _
  have e6:D2=mixBig.d2 (wd L pa) (wd L pb) (wd L pc) (wd L pd) x y:=by rw[<-aa,<-ab,e2,e5];rfl
  have e7:C2=mixBig.c2 (wd L pa) (wd L pb) (wd L pc) (wd L pd) x y:=by rw[<-al,e3,e6];exact S _
  have e8:B2=mixBig.b2 (wd L pa) (wd L pb) (wd L pc) (wd L pd) x y:=by rw[<-X,<-ad,e4,e7];rfl
  rw[e5,e6,e7,e8];rfl
 have ap:=hid ES;rw[Z]at R1;rw[Y]at R2;rw[aa]at R3;rw[X]at R4;clear Z Y aa X ES S;generalize wd L pa=va at*;generalize wd L pb=vb at*;generalize wd L pc=vc at*;generalize wd L pd=vd at*;go_enter Tryz.func234,Tryz.ntmps234
 go_wp2_with fail
 obtain⟨J,I,D,G,r,O⟩:=h0.facts;go_quiet (fail)
 go_wp2_with fail
 clear J I D G r O;replace h0:=(h0.alloc (.cells #[.int .i64 pa,.int .i64 pb,.int .i64 pc,.int .i64 pd] 334 (0,0))).drew nq
 refine qm ?_;intro W0 o;have H0:=hid (h0.letter o);obtain⟨J,I,D,G,r,O⟩:=H0.out.facts;clear o h0;refine qk (by dsimp only[List.dropLast]) (by rfl) (by rfl) (by kernel_rfl) (by kernel_rfl) (by kernel_rfl) (by kernel_rfl) ?_;repeat(go_big_quiet_step (fail))
 refine wpQuiet_nil ?_;intro _ q;obtain⟨n0,rfl⟩:=q;go_wp2_with fail
 clear J I D G r O;have h1:=H0.out.setA n0 V;clear H0;refine qm ?_;intro W1 o;have H1:=hid (h1.letter o);obtain⟨J,I,D,G,r,O⟩:=H1.out.facts;clear o h1;refine qk (by dsimp only[List.dropLast]) (by rfl) (by rfl) (by kernel_rfl) (by kernel_rfl) (by kernel_rfl) (by kernel_rfl) ?_;repeat(go_big_quiet_step (exact Calls.quiet_of_same (R1.out _)))
 refine wpQuiet_nil ?_;intro _ q;obtain⟨n1,rfl⟩:=q;go_wp2_with fail
 clear J I D G r O;have h2:=H1.out.setD n1 U;clear H1;refine qm ?_;intro W2 o;have H2:=hid (h2.letter o);obtain⟨J,I,D,G,r,O⟩:=H2.out.facts;clear o h2;refine qk (by dsimp only[List.dropLast]) (by rfl) (by rfl) (by kernel_rfl) (by kernel_rfl) (by kernel_rfl) (by kernel_rfl) ?_;repeat(go_big_quiet_step (fail))
 refine wpQuiet_nil ?_;intro _ q;obtain⟨n2,rfl⟩:=q;go_wp2_with fail
 clear J I D G r O;have h3:=H2.out.setC n2 C1;clear H2;refine qm ?_;intro W3 o;have H3:=hid (h3.letter o);obtain⟨J,I,D,G,r,O⟩:=H3.out.facts;clear o h3;refine qk (by dsimp only[List.dropLast]) (by rfl) (by rfl) (by kernel_rfl) (by kernel_rfl) (by kernel_rfl) (by kernel_rfl) ?_;repeat(go_big_quiet_step (exact Calls.quiet_of_same (R2.out _)))
 refine wpQuiet_nil ?_;intro _ q;obtain⟨n3,rfl⟩:=q;go_wp2_with fail
 clear J I D G r O;have h4:=H3.out.setB n3 B1;clear H3;refine qm ?_;intro W4 o;have H4:=hid (h4.letter o);obtain⟨J,I,D,G,r,O⟩:=H4.out.facts;clear o h4;refine qk (by dsimp only[List.dropLast]) (by rfl) (by rfl) (by kernel_rfl) (by kernel_rfl) (by kernel_rfl) (by kernel_rfl) ?_;repeat(go_big_quiet_step (fail))
 refine wpQuiet_nil ?_;intro _ q;obtain⟨n4,rfl⟩:=q;go_wp2_with fail
 clear J I D G r O;have h5:=H4.out.setA n4 A2;clear H4;refine qm ?_;intro W5 o;have H5:=hid (h5.letter o);obtain⟨J,I,D,G,r,O⟩:=H5.out.facts;clear o h5;refine qk (by dsimp only[List.dropLast]) (by rfl) (by rfl) (by kernel_rfl) (by kernel_rfl) (by kernel_rfl) (by kernel_rfl) ?_;repeat(go_big_quiet_step (exact Calls.quiet_of_same (R3.out _)))
 refine wpQuiet_nil ?_;intro _ q;obtain⟨n5,rfl⟩:=q;go_wp2_with fail
 clear J I D G r O;have h6:=H5.out.setD n5 D2;clear H5;refine qm ?_;intro W6 o;have H6:=hid (h6.letter o);obtain⟨J,I,D,G,r,O⟩:=H6.out.facts;clear o h6;refine qk (by dsimp only[List.dropLast]) (by rfl) (by rfl) (by kernel_rfl) (by kernel_rfl) (by kernel_rfl) (by kernel_rfl) ?_;repeat(go_big_quiet_step (fail))
 refine wpQuiet_nil ?_;intro _ q;obtain⟨n6,rfl⟩:=q;go_wp2_with fail
 clear J I D G r O;have h7:=H6.out.setC n6 C2;clear H6;refine qm ?_;intro W7 o;have H7:=hid (h7.letter o);obtain⟨J,I,D,G,r,O⟩:=H7.out.facts;clear o h7;refine qk (by dsimp only[List.dropLast]) (by rfl) (by rfl) (by kernel_rfl) (by kernel_rfl) (by kernel_rfl) (by kernel_rfl) ?_;repeat(go_big_quiet_step (exact Calls.quiet_of_same (R4.out _)))
 refine wpQuiet_nil ?_;intro _ q;obtain⟨n7,rfl⟩:=q;go_wp2_with fail
 clear J I D G r O;have h8:=H7.out.setB n7 B2;clear H7;refine bodyPost_end (results_none rfl _ _ _) rfl ⟨rfl,?_,h8.but⟩;rw[ap.out,<-qjK af ai aj ah ae ak V U C1 B1];exact h8.heap
theorem Yi (b:Nat)(L:List Int)(hL:Words 32 16 L)(pa pb pc pd:Nat)(ha:pa<16)(hb:pb<16)(hc:pc<16)(hd:pd<16)(af:pa≠pb)(ai:pa≠pc)(aj:pa≠pd)(ah:pb≠pc)(ae:pb≠pd)(ak:pc≠pd)
  (x y:Int) (T:TypeId) (w:World) (hw:w.heap[b]? =some (.cells (qj .u32 L) T (0,0))):
  Calls Tryz.prog 236 #[.pointer (some ⟨b,0,none⟩),.int .i64 pa,.int .i64 pb,.int .i64 pc,.int .i64 pd,.int .u32 x,.int .u32 y] w fun e w'=>e= .returned (.tuple #[])/\w'.heap[b]? =some (.cells (qj .u32 (mixSmall.step L pa pb pc pd x y)) T (0,0))/\But b w w':=by
 have aq:b<w.heap.size:=(Ai hw).1;have h0:At4 .u32 b T pa pb pc pd w L (wd L pa) (wd L pb) (wd L pc) (wd L pd) w:=⟨hw,hL.1,rfl,rfl,rfl,rfl,⟨ha,hb,hc,hd⟩,⟨af,ai,aj,ah,ae,ak⟩,But.refl _ _⟩;clear hw;have Y: ∀z,IntKind.u32.wrap z=z%2^32:=fun z=>IntKind.wrap_u32 z
 obtain⟨U,an⟩:=Ex ((wd L pa+(wd L pb+x))%4294967296);obtain⟨X1,ac⟩:=Ex (bits BinOp.xor .u32 (wd L pd) U);obtain⟨S,Z⟩:=Ex (yo 32 16 X1);obtain⟨C1,ao⟩:=Ex ((wd L pc+S)%4294967296);obtain⟨X2,ag⟩:=Ex (bits BinOp.xor .u32 (wd L pb) C1);obtain⟨B1,X⟩:=Ex (yo 32 12 X2);obtain⟨A2,am⟩:=Ex ((U+(B1+y))%4294967296);obtain⟨X3,ab⟩:=Ex (bits BinOp.xor .u32 S A2);obtain⟨D2,aa⟩:=Ex (yo 32 8 X3);obtain⟨C2,al⟩:=Ex ((C1+D2)%4294967296);obtain⟨X4,ad⟩:=Ex (bits BinOp.xor .u32 B1 C2);obtain⟨B2,V⟩:=Ex (yo 32 7 X4);have R1:=hid (fun w=>qiE X1 w (ac▸Qe .xor .u32 32 Y _ _));have R2:=hid (fun w=>qiF X2 w (ag▸Qe .xor .u32 32 Y _ _));have R3:=hid (fun w=>qjN X3 w (ab▸Qe .xor .u32 32 Y _ _));have R4:=hid (fun w=>qjO X4 w (ad▸Qe .xor .u32 32 Y _ _));have ES:mixSmall.step L pa pb pc pd x y=(((L.set pa A2).set pd D2).set pc C2).set pb B2:=by
  have e1:U=mixSmall.a1 (wd L pa) (wd L pb) x:=by rw[<-an];rw[<-Int.add_assoc];rfl
  have e2:S=mixSmall.d1 (wd L pa) (wd L pb) (wd L pd) x:=by rw[<-Z,<-ac,e1];rfl
  have e3:C1=mixSmall.c1 (wd L pa) (wd L pb) (wd L pc) (wd L pd) x:=by rw[<-ao,e2];rfl
  have e4:B1=mixSmall.b1 (wd L pa) (wd L pb) (wd L pc) (wd L pd) x:=by rw[<-X,<-ag,e3];rfl
  have e5:A2=mixSmall.a2 (wd L pa) (wd L pb) (wd L pc) (wd L pd) x y:=by rw[<-am,e1,e4];rw[<-Int.add_assoc];rfl
  have e6:D2=mixSmall.d2 (wd L pa) (wd L pb) (wd L pc) (wd L pd) x y:=by rw[<-aa,<-ab,e2,e5];rfl
  have e7:C2=mixSmall.c2 (wd L pa) (wd L pb) (wd L pc) (wd L pd) x y:=by rw[<-al,e3,e6];rfl
  have e8:B2=mixSmall.b2 (wd L pa) (wd L pb) (wd L pc) (wd L pd) x y:=by rw[<-V,<-ad,e4,e7];rfl
  rw[e5,e6,e7,e8];rfl
 have ap:=hid ES;rw[Z]at R1;rw[X]at R2;rw[aa]at R3;rw[V]at R4;clear Z X aa V ES Y;generalize wd L pa=va at*;generalize wd L pb=vb at*;generalize wd L pc=vc at*;generalize wd L pd=vd at*;go_enter Tryz.func236,Tryz.ntmps236
 go_wp2_with fail
 refine qm ?_;intro W0 o;have H0:=hid (h0.letter o);obtain⟨J,I,D,G,r,O⟩:=H0.out.facts;clear o h0;refine qk (by dsimp only[List.dropLast]) (by rfl) (by rfl) (by kernel_rfl) (by kernel_rfl) (by kernel_rfl) (by kernel_rfl) ?_;repeat(go_big_quiet_step (fail))
 refine wpQuiet_nil ?_;intro _ q;obtain⟨n0,rfl⟩:=q;go_wp2_with fail
 clear J I D G r O;have h1:=H0.out.setA n0 U;clear H0;refine qm ?_;intro W1 o;have H1:=hid (h1.letter o);obtain⟨J,I,D,G,r,O⟩:=H1.out.facts;clear o h1;refine qk (by dsimp only[List.dropLast]) (by rfl) (by rfl) (by kernel_rfl) (by kernel_rfl) (by kernel_rfl) (by kernel_rfl) ?_;repeat(go_big_quiet_step (exact Calls.quiet_of_same (R1.out _)))
 refine wpQuiet_nil ?_;intro _ q;obtain⟨n1,rfl⟩:=q;go_wp2_with fail
 clear J I D G r O;have h2:=H1.out.setD n1 S;clear H1;refine qm ?_;intro W2 o;have H2:=hid (h2.letter o);obtain⟨J,I,D,G,r,O⟩:=H2.out.facts;clear o h2;refine qk (by dsimp only[List.dropLast]) (by rfl) (by rfl) (by kernel_rfl) (by kernel_rfl) (by kernel_rfl) (by kernel_rfl) ?_;repeat(go_big_quiet_step (fail))
 refine wpQuiet_nil ?_;intro _ q;obtain⟨n2,rfl⟩:=q;go_wp2_with fail
 clear J I D G r O;have h3:=H2.out.setC n2 C1;clear H2;refine qm ?_;intro W3 o;have H3:=hid (h3.letter o);obtain⟨J,I,D,G,r,O⟩:=H3.out.facts;clear o h3;refine qk (by dsimp only[List.dropLast]) (by rfl) (by rfl) (by kernel_rfl) (by kernel_rfl) (by kernel_rfl) (by kernel_rfl) ?_;repeat(go_big_quiet_step (exact Calls.quiet_of_same (R2.out _)))
 refine wpQuiet_nil ?_;intro _ q;obtain⟨n3,rfl⟩:=q;go_wp2_with fail
 clear J I D G r O;have h4:=H3.out.setB n3 B1;clear H3;refine qm ?_;intro W4 o;have H4:=hid (h4.letter o);obtain⟨J,I,D,G,r,O⟩:=H4.out.facts;clear o h4;refine qk (by dsimp only[List.dropLast]) (by rfl) (by rfl) (by kernel_rfl) (by kernel_rfl) (by kernel_rfl) (by kernel_rfl) ?_;repeat(go_big_quiet_step (fail))
 refine wpQuiet_nil ?_;intro _ q;obtain⟨n4,rfl⟩:=q;go_wp2_with fail
 clear J I D G r O;have h5:=H4.out.setA n4 A2;clear H4;refine qm ?_;intro W5 o;have H5:=hid (h5.letter o);obtain⟨J,I,D,G,r,O⟩:=H5.out.facts;clear o h5;refine qk (by dsimp only[List.dropLast]) (by rfl) (by rfl) (by kernel_rfl) (by kernel_rfl) (by kernel_rfl) (by kernel_rfl) ?_;repeat(go_big_quiet_step (exact Calls.quiet_of_same (R3.out _)))
 refine wpQuiet_nil ?_;intro _ q;obtain⟨n5,rfl⟩:=q;go_wp2_with fail
 clear J I D G r O;have h6:=H5.out.setD n5 D2;clear H5;refine qm ?_;intro W6 o;have H6:=hid (h6.letter o);obtain⟨J,I,D,G,r,O⟩:=H6.out.facts;clear o h6;refine qk (by dsimp only[List.dropLast]) (by rfl) (by rfl) (by kernel_rfl) (by kernel_rfl) (by kernel_rfl) (by kernel_rfl) ?_;repeat(go_big_quiet_step (fail))
 refine wpQuiet_nil ?_;intro _ q;obtain⟨n6,rfl⟩:=q;go_wp2_with fail
 clear J I D G r O;have h7:=H6.out.setC n6 C2;clear H6;refine qm ?_;intro W7 o;have H7:=hid (h7.letter o);obtain⟨J,I,D,G,r,O⟩:=H7.out.facts;clear o h7;refine qk (by dsimp only[List.dropLast]) (by rfl) (by rfl) (by kernel_rfl) (by kernel_rfl) (by kernel_rfl) (by kernel_rfl) ?_;repeat(go_big_quiet_step (exact Calls.quiet_of_same (R4.out _)))
 refine wpQuiet_nil ?_;intro _ q;obtain⟨n7,rfl⟩:=q;go_wp2_with fail
 clear J I D G r O;have h8:=H7.out.setB n7 B2;clear H7;refine bodyPost_end (results_none rfl _ _ _) rfl ⟨rfl,?_,h8.but⟩;rw[ap.out,<-qjK af ai aj ah ae ak U S C1 B1];exact h8.heap
