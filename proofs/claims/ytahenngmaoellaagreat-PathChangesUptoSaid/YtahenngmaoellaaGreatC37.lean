/- The digest of a message, by both sides; a tree with bytes of its own. No condition. -/
import Derived.Test.YtahenngmaoellaaGreatC35
import Derived.Test.YtahenngmaoellaaGreatC26
import Derived.Test.YtahenngmaoellaaGreatC36
import Derived.Test.YtahenngmaoellaaGreatC25
import Derived.Test.YtahenngmaoellaaGreatC32
import Derived.ArgAppend
set_option linter.all false
set_option maxRecDepth 100000
set_option maxHeartbeats 8000000
namespace Go.Proofs.YtahenngmaoellaaGreat
open Go.ChangeShapes Go.WideShapes Go.ChangeAt Go.RowKit Go.Joins Go.Shelf Go.Maps
open Go.Lib (hid)
attribute [local go_sem] Oper.semAt_some
def TreeV.digZ (t:TreeV)(kz z1 z2 zs:List Int):List Int:=if t.validE=0 then qz (t.lvlZ kz z1 z2 (t.leafZ kz z1 z2 zs) ((t.rowsOf zs.length).length - 1)) 0 else []
theorem yA {t:TreeV}{total:Nat}(h:t.validE=0)(hn:total≤4194304):t.err total=0:=by
 unfold TreeV.err;rw[if_neg (by simp[h]),if_neg ?_];rintro⟨-,h2⟩
 have hl:1≤t.ln∨t.ln=0:=by omega
 rcases hl with hl|hl
 ·have:=yS (n:=total) hl;omega
 ·rw[hl]at h2;unfold qH at h2;split at h2<;>simp at h2
theorem Yg {t:TreeV}(h:t.validE=0)(hl:0≤t.l∧t.l≤4294967295)(kz z1 z2 zs:List Int):(t.leafZ kz z1 z2 zs).length=lvs zs.length t.ln:=by
 have hln:1≤t.ln:=by
  have:=(qk h).2.2.2.2.2.2.2.2.1
  unfold TreeV.ln;omega
 rw[←Y2 zs hln];exact TreeV.rowZ_length ..
def qis (t:TreeV)(kz z1 z2 zs:List Int)(w:World)(e:Ending)(w':World):Prop:=
 ∃u,e= .returned (.tuple #[u,.int .i64 t.validE])∧OwnB w.heap.size w' u (t.digZ kz z1 z2 zs)∧Below w.heap.size w w'
theorem qab (t:TreeV)(w:World):Calls Tryz.prog 13 #[t.val] w fun e w'=>e= .returned (.int .i64 t.validE)∧Below w.heap.size w w':=by
 obtain⟨b0,hb0⟩:=Ex w.heap.size;have HVL:=hid (fun W:World=>yt t W);have hbA:Below b0 w (w.alloc (.cells #[.int .i64 t.k,.int .i64 t.d,.int .i64 t.f,.int .i64 t.p,.int .u32 t.l,.int .i64 t.i,.slice t.ka t.kl t.kc,.slice t.sa t.sl t.sc,.slice t.pa t.pl t.pc] 26)):=by rw[←hb0];exact Br.alloc Nl _
 have hrA:=Wn w (.cells #[.int .i64 t.k,.int .i64 t.d,.int .i64 t.f,.int .i64 t.p,.int .u32 t.l,.int .i64 t.i,.slice t.ka t.kl t.kc,.slice t.sa t.sl t.sc,.slice t.pa t.pl t.pc] 26);rw[hb0]at hrA;generalize t.validE=ev at*;unfold TreeV.val at*;go_enter Tryz.func13,Tryz.ntmps13
 go_upto_region 1 with(fail)
 generalize w.alloc (.cells #[.int .i64 t.k,.int .i64 t.d,.int .i64 t.f,.int .i64 t.p,.int .u32 t.l,.int .i64 t.i,.slice t.ka t.kl t.kc,.slice t.sa t.sl t.sc,.slice t.pa t.pl t.pc] 26)=wA at*;go_wp2_with ((with_reducible show wpList _ _ _ (Oper.mk _ (Op.load 26 _) _ _ _ _::_) _ _);refine wpList_load_row rfl 26 _ rfl b0 rfl _ _ _ _ hrA Tryz.underlying26 rfl (by kernel_rfl) ?_)
 refine(HVL.out wA).mono ?_;rintro e w2 ⟨rfl,hb2⟩;have HB2:=hid (hbA.trans (hb2.mono (by have:=(Ai hrA).1;omega)));clear hrA hbA hb2;go_wp2
 go_ret
 exact⟨rfl,by rw[hb0];exact HB2.out⟩
theorem qeT (t:TreeV)(v:Value)(w:World)(h:t.validE≠0):
  Calls Tryz.prog 19 #[t.val,v] w fun e w'=>e= .returned (.tuple #[.slice none 0 0,.int .i64 t.validE])∧Below w.heap.size w w':=by
 obtain⟨b0,hb0⟩:=Ex w.heap.size;have HVL:=hid (fun W:World=>qab t W);have hbA:Below b0 w (w.alloc (.cells #[.int .i64 t.k,.int .i64 t.d,.int .i64 t.f,.int .i64 t.p,.int .u32 t.l,.int .i64 t.i,.slice t.ka t.kl t.kc,.slice t.sa t.sl t.sc,.slice t.pa t.pl t.pc] 26)):=by rw[←hb0];exact Br.alloc Nl _
 have hrA:=Wn w (.cells #[.int .i64 t.k,.int .i64 t.d,.int .i64 t.f,.int .i64 t.p,.int .u32 t.l,.int .i64 t.i,.slice t.ka t.kl t.kc,.slice t.sa t.sl t.sc,.slice t.pa t.pl t.pc] 26);rw[hb0]at hrA;generalize t.validE=ev at*;have hq:(ev != 0)=true:=by rw[bne_iff_ne];exact h
 clear h;unfold TreeV.val at*;go_enter Tryz.func19,Tryz.ntmps19
 go_upto_region 1 with(fail)
 generalize w.alloc (.cells #[.int .i64 t.k,.int .i64 t.d,.int .i64 t.f,.int .i64 t.p,.int .u32 t.l,.int .i64 t.i,.slice t.ka t.kl t.kc,.slice t.sa t.sl t.sc,.slice t.pa t.pl t.pc] 26)=wA at*;go_wp2_with ((with_reducible show wpList _ _ _ (Oper.mk _ (Op.load 26 _) _ _ _ _::_) _ _);refine wpList_load_row rfl 26 _ rfl b0 rfl _ _ _ _ hrA Tryz.underlying26 rfl (by kernel_rfl) ?_)
 refine(HVL.out wA).mono ?_;rintro e w2 ⟨rfl,hb2⟩;have HB2:=hid (hbA.trans (hb2.mono (by have:=(Ai hrA).1;omega)));clear hrA hbA hb2;go_wp2
 go_ret2
 exact⟨rfl,by rw[hb0];exact HB2.out⟩
theorem qgg (t:TreeV)(kz z1 z2 zs:List Int)(v:Value)(w:World)(h:TreeOk t kz z1 z2 w)(hv:Hold w v zs)(hn:zs.length≤4194304):
  Calls Tryz.prog 19 #[t.val,v] w fun e w'=> ∃u,e= .returned (.tuple #[u,.int .i64 0])∧OwnB w.heap.size w' u (qz (t.lvlZ kz z1 z2 (t.leafZ kz z1 z2 zs) ((t.rowsOf zs.length).length - 1)) 0)∧Below w.heap.size w w':=by
 obtain⟨b0,hb0⟩:=Ex w.heap.size;have hvl:=fun W:World=>qab t W
 simp only[h.v]at hvl;have HVL:=hid hvl;have he:=yA h.v hn;have hLF:=Qb h.v h.l kz z1 z2 zs;have hLR:=Yg h.v h.l kz z1 z2 zs;have HLE:=hid (fun(W:World) (hb:Below w.heap.size w W)=>qdE t kz z1 z2 zs v w W h he hv hb hn);have HAB:=hid (fun(W:World) (x:Value) (hx:ListH W x (t.leafZ kz z1 z2 zs)) (hb:Below w.heap.size w W)=>qfe t kz z1 z2 zs.length (t.leafZ kz z1 z2 zs) x w W h he hx hb hLR hLF.2.2 (by have:=hLF.2.1;omega) (by omega));have HLZ:=hid (show t.rowZ kz z1 z2 0 false (QH t.ln zs) (QH t.ln zs).length=t.leafZ kz z1 z2 zs from rfl);generalize t.rowZ kz z1 z2 0 false (QH t.ln zs) (QH t.ln zs).length=RZ at*;generalize t.rowC kz z1 z2 0 false (QH t.ln zs) (QH t.ln zs).length=RC at*;generalize t.lvlsC kz z1 z2 (t.leafZ kz z1 z2 zs) ((t.rowsOf zs.length).length - 1)=LC at*;generalize qz (t.lvlZ kz z1 z2 (t.leafZ kz z1 z2 zs) ((t.rowsOf zs.length).length - 1)) 0=Y at*;obtain⟨va,vc,rfl,hvc1,hvc2⟩:=hv.slice;have hju:IntKind.u64.wrap (zs.length:Int)=(zs.length:Int):=u64_wrap_id _ (by omega) (by omega);have hbA:Below b0 w (w.alloc (.cells #[.int .i64 t.k,.int .i64 t.d,.int .i64 t.f,.int .i64 t.p,.int .u32 t.l,.int .i64 t.i,.slice t.ka t.kl t.kc,.slice t.sa t.sl t.sc,.slice t.pa t.pl t.pc] 26)):=by rw[←hb0];exact Br.alloc Nl _
 have hrA:=Wn w (.cells #[.int .i64 t.k,.int .i64 t.d,.int .i64 t.f,.int .i64 t.p,.int .u32 t.l,.int .i64 t.i,.slice t.ka t.kl t.kc,.slice t.sa t.sl t.sc,.slice t.pa t.pl t.pc] 26);rw[hb0]at hrA;rw[hb0]at HLE HAB;clear h hv hvl he hLF hLR;unfold TreeV.val at*;go_enter Tryz.func19,Tryz.ntmps19
 go_upto_region 1 with(fail)
 generalize w.alloc (.cells #[.int .i64 t.k,.int .i64 t.d,.int .i64 t.f,.int .i64 t.p,.int .u32 t.l,.int .i64 t.i,.slice t.ka t.kl t.kc,.slice t.sa t.sl t.sc,.slice t.pa t.pl t.pc] 26)=wA at*;go_wp2_with ((with_reducible show wpList _ _ _ (Oper.mk _ (Op.load 26 _) _ _ _ _::_) _ _);refine wpList_load_row rfl 26 _ rfl b0 rfl _ _ _ _ hrA Tryz.underlying26 rfl (by kernel_rfl) ?_)
 refine(HVL.out wA).mono ?_;rintro e w2 ⟨rfl,hb2⟩;have hr2:=qd hrA hb2;have hB2:=hbA.trans (hb2.mono (by have:=(Ai hrA).1;omega));have HB2:=hid hB2;clear hrA hbA hb2 hB2;go_wp2_with ((with_reducible show wpList _ _ _ (Oper.mk _ (Op.load 26 _) _ _ _ _::_) _ _);refine wpList_load_row rfl 26 _ rfl b0 rfl _ _ _ _ hr2 Tryz.underlying26 rfl (by kernel_rfl) ?_)
 refine(HLE.out w2 HB2.out).mono ?_;rintro e w3 ⟨cv,u,rfl, -,hu,hb3⟩;have hr3:=qd hr2 hb3;have hbs:=(Ai hr2).1;have HB3:=hid (HB2.out.trans (hb3.mono (by omega)));have HU:=hid hu.hold;clear hb3 hr2 hu;go_wp2_with ((with_reducible show wpList _ _ _ (Oper.mk _ (Op.load 26 _) _ _ _ _::_) _ _);refine wpList_load_row rfl 26 _ rfl b0 rfl _ _ _ _ hr3 Tryz.underlying26 rfl (by kernel_rfl) ?_)
 refine(HAB.out w3 _ (by rw[←HLZ.out];exact HU.out) HB3.out).mono ?_;rintro e w4 ⟨cv2,y,rfl, -,hy,hb4⟩;have hbs3:=(Ai hr3).1;have HB4:=hid (HB3.out.trans (hb4.mono (by omega)));have HY:=hid (hy.le (show b0≤w3.heap.size by omega));clear hb4 hy hr3;go_wp2
 go_ret2
 exact⟨_,rfl,by rw[hb0];exact HY.out,by rw[hb0];exact HB4.out⟩
theorem qeU (t:TreeV)(kz z1 z2 zs:List Int)(v:Value)(w:World)(hl:0≤t.l∧t.l≤4294967295)(hk:Hold w (.slice t.ka t.kl t.kc) kz)(hs:Hold w (.slice t.sa t.sl t.sc) z1)(hp:Hold w (.slice t.pa t.pl t.pc) z2)(hv:Hold w v zs)(hn:zs.length≤4194304):
  Calls Tryz.prog 19 #[t.val,v] w fun e w'=>qis t kz z1 z2 zs w e w':=by
 by_cases h:t.validE=0
 ·refine(qgg t kz z1 z2 zs v w ⟨h,hl,hk,hs,hp⟩ hv hn).mono ?_;rintro e w' ⟨u,rfl,ho,hb⟩
  exact⟨u,by rw[h],by unfold TreeV.digZ;rw[if_pos h];exact ho,hb⟩
 ·refine(qeT t v w h).mono ?_;rintro e w' ⟨rfl,hb⟩
  exact⟨_,rfl,by unfold TreeV.digZ;rw[if_neg h];exact⟨fun _ h=>by simp at h,.inl ⟨rfl,rfl⟩⟩,hb⟩
theorem qcp {W:World}{B T s n:Nat}{v:Value}{xs:List Value}(h:W.ownsRow B T s v n xs)(hn:0<n): ∃g cap,v= .slice (some ⟨g,0,none⟩) n cap∧B≤g∧g<W.heap.size∧ ∀j u,xs[j]? =some u→W.cell? ⟨g,j,none⟩=some u:=by
 rcases h.2 with⟨-,rfl⟩|⟨g,cap,cur,rfl,h1,h2,h3,h4,h5,h6⟩
 ·omega
 ·refine⟨g,cap,rfl,h1,(Ai h2).1,fun j u hu=>(qa h2 j).trans ?_⟩;rw[←h6,List.getElem?_take]at hu;split at hu
  ·rw[←Array.getElem?_toList];exact hu
  ·cases hu
theorem qc3 {P:Program}{ops:Array Oper}{rest:List Oper}{o:Oper}{a:Act}{Q:Exit→Act→World→Prop}{W:World}(hgd:o.guard=none)(s x:Operand)(t:TypeId)
 (ho:o.op= .call { callee:= .builtin .append,args:= #[s,x],argTypes:= #[t,t] }) (B:Nat) (e:TypeId) (he:e≠5) (i:TypeInfo) (z:Value) (size bytes:Nat) (ht:P.underlying t=some (.slice e)) (hi:P.info? e=some i) (hz:i.zero=some z)
 (hsize:i.size=size) (hby:i.bytes=bytes) (hzs:z.cells.size=size) (hsz:0<size) (v:Value) (n:Nat) (xs:List Value) (hs:a.eval s=v) (hown:W.ownsRow B e size v n xs)
 (B2:Nat) (y:Value) (m:Nat) (ys:List Value) (hx:a.eval x=y) (hy:W.ownsRow B2 e size y m ys) (hm:0<m) (h1: ∀u∈ys,u.oneCell'=true) (h63:n+m≤maxLen) (hbytes:(n+m)*bytes≤140737488355328) (hB:B≤W.heap.size)
 (h: ∀v' w',w'.ownsRow B e size v' (n+m) (xs++ys)→KB B W w'→Spare (fun k=>v.ownBlock≠some k) W w'→(v'.ownBlock=v.ownBlock∨v'.ownBlock=some W.heap.size)→wpList P ops Q rest (a.put o.dst v') w'):wpList P ops Q (o::rest) a W:=by
 obtain⟨g,cap,rfl,hg1,hg2,hg3⟩:=qcp hy hm;refine wpList_append_own_at _ hgd s x t ho B e i z size bytes ht hi hz hsize hby hzs hsz v n xs hs hown ⟨g,0,none⟩ m cap ys hx hy.1 (fun j u hj=>?_) h1 h63 hbytes hB fun v' w' h2 h3 _ h5=>?_
 ·rw[Go.WideShapes.add_plain,Nat.zero_add];exact hg3 j u hj
 have hsp:Spare (fun k=>v.ownBlock≠some k) W w':=Spare.of_grown h3;refine h v' w' h2 ⟨hsp.os,hsp.tape,hsp.output,hsp.size,fun k hk=>hsp.block k (by omega) (fun e2=>?_),fun k c hc=>?_⟩ hsp h5
 ·rcases hown.2 with⟨rfl, -⟩|⟨g,cap,cur,rfl,h4, -⟩
  ·cases e2
  ·simp only[Value.ownBlock,Option.some.injEq]at e2;omega
 ·rw[hsp.block k (Ai hc).1 (fun e2=>?_)]
  ·exact hc
  ·rcases hown.2 with⟨rfl, -⟩|⟨g,cap,cur,rfl, -,h5, -⟩
   ·cases e2
   ·simp only[Value.ownBlock,Option.some.injEq]at e2;subst e2;rw[h5]at hc;simp only[Option.some.injEq,Obj.cells.injEq]at hc;exact he hc.2.1
def TreeV.outC (t:TreeV)(s:CallS):List Int:=jJ t.big s.bs s.kz s.la s.o s.ds
theorem qaE (t:TreeV)(kz z1 z2:List Int)(row i:Nat)(la rt:Bool)(d:List Int):t.outC (t.callS kz z1 z2 row i la rt d)=t.node kz z1 z2 row i la rt d:=rfl
def RowsV (B:Nat)(w:World)(lv:Value)(vs:List Value)(LL:List (List (List Int))):Prop:=
 w.ownsRow B 67 1 lv LL.length vs∧(∀i,i<LL.length→ListO B w (vs.getD i undef) (LL.getD i []))∧ ∀i j g,i<j→j<LL.length→(vs.getD i undef).ownBlock=some g→(vs.getD j undef).ownBlock≠some g
theorem RowsV.len {B:Nat}{w:World}{lv:Value}{vs:List Value}{LL:List (List (List Int))}(h:RowsV B w lv vs LL):vs.length=LL.length:=by have:=h.1.1;simpa using this
theorem RowsV.tend {B:Nat}{w w':World}{lv:Value}{vs:List Value}{LL:List (List (List Int))}(h:RowsV B w lv vs LL)(hb: ∀(k:Nat) (c:Array Value),w.heap[k]? =some (.cells c 5 (0,0))→w'.heap[k]? =some (.cells c 5 (0,0)))
  (h1: ∀g,lv.ownBlock=some g→w'.heap[g]? =w.heap[g]?) (h2: ∀i g,i<LL.length→(vs.getD i undef).ownBlock=some g→w'.heap[g]? =w.heap[g]?):RowsV B w' lv vs LL:=
 ⟨QV h.1 h1,fun i hi=>(h.2.1 i hi).tend hb (fun g hg=>h2 i g hi hg),h.2.2⟩
theorem yP {w:World}{B T n s:Nat}{v:Value}{xs:List Value}(ho:w.ownsRow B T s v n xs): ∀g,v.ownBlock=some g→B≤g:=by
 intro g hg;rcases ho.2 with⟨rfl, -⟩|⟨g',cap,cur,rfl,h1, -, -⟩
 ·cases hg
 ·simp only[Value.ownBlock,Option.some.injEq]at hg;omega
theorem Yu {w:World}{B T n s:Nat}{v:Value}{xs:List Value}(ho:w.ownsRow B T s v n xs): ∀g,v.ownBlock=some g→ ∃c,w.heap[g]? =some (.cells c T (0,0)):=by
 intro g hg;rcases ho.2 with⟨rfl, -⟩|⟨g',cap,cur,rfl, -,h2, -⟩
 ·cases hg
 ·simp only[Value.ownBlock,Option.some.injEq]at hg;subst hg;exact⟨_,h2⟩
theorem ListO.row {B:Nat}{w:World}{v:Value}{L:List (List Int)}(h:ListO B w v L): ∃vs,w.ownsRow B 24 1 v L.length vs:=by
 obtain⟨vs,ho, -⟩:=h;exact⟨vs,ho⟩
theorem Y1 {α:Type}(L:List α)(k i:Nat)(x d:α)(hk:k<L.length):(L.set k x).getD i d=if k=i then x else L.getD i d:=by
 simp only[Lg,List.getElem?_set];by_cases h:k=i
 ·subst h;simp[hk]
 ·simp[h]
theorem RowsV.snoc {B:Nat}{w w':World}{lv lv':Value}{vs:List Value}{LL:List (List (List Int))}(h:RowsV B w lv vs LL)(ho:w'.ownsRow B 67 1 lv' (LL.length+1) (vs++[.slice none 0 0]))(hk:KB B w w')(hsp:Spare (fun k=>lv.ownBlock≠some k) w w'):RowsV B w' lv' (vs++[.slice none 0 0]) (LL++[[]]):=by
 have hl:=h.len;refine⟨by simpa using ho,fun i hi=>?_,fun i j g hij hj hg=>?_⟩
 ·simp only[List.length_append,List.length_singleton]at hi;rw[qQ,qQ,hl];by_cases h3:i<LL.length
  ·rw[if_pos h3,if_pos h3];obtain⟨xs,hxs⟩:=(h.2.1 i h3).row;exact(h.2.1 i h3).kb hk (yN h.1 hxs (by decide) hsp)
  ·rw[if_neg h3,if_neg h3,if_pos (by omega),if_pos (by omega)];exact ListO.nil _ _
 ·simp only[List.length_append,List.length_singleton]at hj;rw[qQ,hl]at hg⊢;by_cases h3:j<LL.length
  ·rw[if_pos (by omega)]at hg;rw[if_pos h3];exact h.2.2 i j g hij h3 hg
  ·rw[if_neg h3,if_pos (by omega)];intro e;cases e
theorem Tend.of_below (F:Nat→Prop){w w':World}(hb:Below w.heap.size w w'):Tend F w w':=⟨Spare.of_below _ hb,(KB.of_below hb (Nat.zero_le _)).bytes⟩
theorem qhl {W w':World}{B T s n:Nat}{v:Value}{xs:List Value}(hown:W.ownsRow B T s v n xs)(hT:T≠5)(h:W.grownBy w' v.ownBlock)(hB:B≤W.heap.size):KB B W w'∧Spare (fun k=>v.ownBlock≠some k) W w':=by
 have hsp:Spare (fun k=>v.ownBlock≠some k) W w':=Spare.of_grown h;refine⟨⟨hsp.os,hsp.tape,hsp.output,hsp.size,fun k hk=>hsp.block k (by omega) (fun e2=>by have:=yP hown k e2;omega),fun k c hc=>?_⟩,hsp⟩;rw[hsp.block k (Ai hc).1 (fun e2=>?_)]
 ·exact hc
 ·obtain⟨c2,h2⟩:=Yu hown k e2;rw[h2]at hc;simp only[Option.some.injEq,Obj.cells.injEq]at hc;exact hT hc.2.1
theorem Ji {w:World}{g:Nat}{c c2:Array Value}{T T2:TypeId}{fr fr2:Nat×Nat}(h:w.heap[g]? =some (.cells c T fr))(hT:T≠T2): ∀k,w.heap[k]? =some (.cells c2 T2 fr2)→k≠g:=by
 rintro k hk rfl
 rw[h]at hk;simp only[Option.some.injEq,Obj.cells.injEq]at hk;exact hT hk.2.1
theorem yO {w:World}{B T n s g:Nat}{v:Value}{xs:List Value}{c:Array Value}{T2:TypeId}{fr:Nat×Nat}(ho:w.ownsRow B T s v n xs)(h:w.heap[g]? =some (.cells c T2 fr))(hT:T2≠T): ∀k,v.ownBlock=some k→k≠g:=fun k hk=>by
 obtain⟨c2,h2⟩:=Yu ho k hk;exact Ji h hT k h2
theorem ListO.off {B g:Nat}{w X:World}{v:Value}{L:List (List Int)}{c:Array Value}{T:TypeId}{fr:Nat×Nat}(h:ListO B w v L)(hg:w.heap[g]? =some (.cells c T fr))(h1:T≠24)(h2:T≠5)(hX: ∀k,k≠g→X.heap[k]? =w.heap[k]?):ListO B X v L:=by
 obtain⟨xs,hx⟩:=h.row;exact h.tend (fun k c hk=>by rw[hX k (Ji hg h2 k hk)];exact hk) (fun k hk=>hX k (yO hx hg h1 k hk))
theorem RowsV.off {B g:Nat}{w X:World}{lv:Value}{vs:List Value}{LL:List (List (List Int))}{c:Array Value}{T:TypeId}{fr:Nat×Nat}(h:RowsV B w lv vs LL)(hg:w.heap[g]? =some (.cells c T fr))(h0:T≠67)(h1:T≠24)(h2:T≠5)(hX: ∀k,k≠g→X.heap[k]? =w.heap[k]?):RowsV B X lv vs LL:=
 ⟨QV h.1 (fun k hk=>hX k (yO h.1 hg h0 k hk)),fun i hi=>(h.2.1 i hi).off hg h1 h2 hX,h.2.2⟩
theorem RowsV.put {B gl n cap:Nat}{w w1:World}{vs:List Value}{DO:List (List (List Int))}{CO:List (List Int)}{out:List Int}{x:Value}(h:RowsV B w (.slice (some ⟨gl,0,none⟩) n cap) vs (DO++[CO]))(h1:ListO B w1 x (CO++[out]))(hk:KB B w w1)(hsp:Spare (fun k=>(vs.getD DO.length undef).ownBlock≠some k) w w1)
  (hat:x.ownBlock=(vs.getD DO.length undef).ownBlock∨ ∀g,x.ownBlock=some g→w.heap.size≤g):RowsV B (w1.setCell ⟨gl,DO.length,none⟩ x) (.slice (some ⟨gl,0,none⟩) n cap) (vs.set DO.length x) (DO++[CO++[out]]):=by
 have hl:=h.len;simp only[List.length_append,List.length_singleton]at hl;obtain⟨ho,hx,hd⟩:=h;have hlast:=hx DO.length (by simp);obtain⟨xs,hxs⟩:=hlast.row;rcases ho.2 with⟨e, -⟩|⟨g,cap',cur,e,p1,p2,p3,p4,p5,p6⟩
 ·cases e
 simp only[Value.slice.injEq,Option.some.injEq,Addr.mk.injEq,and_true]at e;obtain⟨rfl,rfl,rfl⟩:=e;have q2:w1.heap[gl]? =some (.cells cur 67 (0,0)):=(hsp.block gl (Ai p2).1 (fun e=>yO hxs p2 (by decide) gl e rfl)).trans p2;have hX: ∀k,k≠gl→(w1.setCell ⟨gl,DO.length,none⟩ x).heap[k]? =w1.heap[k]? :=fun k hk=>heap_setCell_other _ _ _ _ hk
 refine⟨⟨by simp[hl],.inr ⟨gl,cap,_,by simp,p1,heap_setCell_same _ gl DO.length cur _ x q2,by simpa using p3,p4,by simpa using p5,?_⟩⟩,fun i hi=>?_,fun i j g hij hj hg=>?_⟩
 ·rw[←p6,Array.toList_setIfInBounds,List.take_set];simp
 ·rw[Y1 _ _ _ _ _ (by omega)];simp only[List.length_append,List.length_singleton]at hi;by_cases hi2:DO.length=i
  ·subst hi2;rw[if_pos rfl,qQ,if_neg (by omega),if_pos rfl];exact h1.off q2 (by decide) (by decide) hX
  ·rw[if_neg hi2,qQ,if_pos (by omega)];have h3:=hx i (by simp;omega);rw[qQ,if_pos (by omega)]at h3;obtain⟨ys,hys⟩:=h3.row;exact(h3.kb hk (fun k hk=>hsp.block k (qM hys k hk) (fun e=>hd i DO.length k (by omega) (by simp) hk e))).off q2 (by decide) (by decide) hX
 ·rw[Y1 _ _ _ _ _ (by omega)]at hg⊢;simp only[List.length_append,List.length_singleton]at hj;rw[if_neg (by omega)]at hg;by_cases hj2:DO.length=j
  ·subst hj2;rw[if_pos rfl];have h3:=hx i (by simp;omega);obtain⟨ys,hys⟩:=h3.row;have h5:=qM hys g hg;rcases hat with h4|h4
   ·rw[h4];exact hd i DO.length g hij (by simp) hg
   ·intro e;have:=h4 g e;omega
  ·rw[if_neg hj2];exact hd i j g hij (by simp;omega) hg
def TreeV.accL (t:TreeV)(done:List (List CallS))(cur:List CallS):List (List (List Int)):=done.map (·.map t.outC)++(if cur.isEmpty then [] else [cur.map t.outC])
def qil (t:TreeV)(w0:World)(bl:Nat)(done:List (List CallS))(cur:List CallS)(F:Nat→Prop)(w:World):Prop:=
 ∃lv vs,w.heap[bl]? =some (.cells #[lv] 70 (0,0))∧w0.heap.size≤bl∧RowsV w0.heap.size w lv vs (t.accL done cur)∧ ∀k,F k↔k=bl∨lv.ownBlock=some k∨ ∃i,i<(t.accL done cur).length∧(vs.getD i undef).ownBlock=some k
theorem qfz {t:TreeV}{w0 w:World}{bl:Nat}{done:List (List CallS)}{cur:List CallS}{F:Nat→Prop}(h:qil t w0 bl done cur F w): ∀k,F k→w0.heap.size≤k∧k<w.heap.size:=by
 obtain⟨lv,vs,h1,h2,h3,h4⟩:=h;intro k hk;rcases(h4 k).1 hk with rfl|hk|⟨i,hi,hk⟩
 ·exact⟨h2,(Ai h1).1⟩
 ·exact⟨yP h3.1 k hk,qM h3.1 k hk⟩
 ·obtain⟨xs,hx⟩:=(h3.2.1 i hi).row;exact⟨yP hx k hk,qM hx k hk⟩
theorem qhG (t:TreeV)(done:List (List CallS))(cur:List CallS)(s:CallS):t.accL done (cur++[s])=done.map (·.map t.outC)++[cur.map t.outC++[t.outC s]]:=by
 unfold TreeV.accL;rw[if_neg (by simp)];simp
theorem qbo (t:TreeV)(done:List (List CallS)):t.accL done []=done.map (·.map t.outC):=by simp[TreeV.accL]
theorem Jw (t:TreeV)(done:List (List CallS)){cur:List CallS}(h:cur≠[]):t.accL done cur=done.map (·.map t.outC)++[cur.map t.outC]:=by
 unfold TreeV.accL;rw[if_neg (by simpa using h)]
theorem qgu (t:TreeV)(done:List (List CallS)){cur:List CallS}(hc:cur≠[]):t.accL (done++[cur]) []=t.accL done cur:=by
 rw[qbo,Jw t done hc,List.map_append];rfl
theorem qbc:(Tryz.prog.info? 67).map (fun i=>(i.zero,i.size,i.bytes))=some (some (.slice none 0 0),1,24):=by kernel_rfl
theorem qbz {ops:Array Oper}{rest:List Oper}{o:Oper}{act:Act}{w:World}{Q:Exit→Act→World→Prop}(hg:o.guard=none)(x:Operand)(ho:o.op= .buildSlice 70 1 #[(0,x)])(a:Option Addr)(n k:Nat)(hx:act.eval x= .slice a n k)
  (h:wpList Tryz.prog ops Q rest (act.put o.dst (.slice (some ⟨w.heap.size,0,none⟩) 1 1)) (w.alloc (.cells #[.slice a n k] 67))):wpList Tryz.prog ops Q (o::rest) act w:=by
 obtain⟨ib,hib,hzb,hsb, -⟩:=info_parts qbc;exact wpList_buildSlice hg 70 67 1 _ ho #[.slice a n k] ib _ Tryz.underlying70 hib hzb (by rw[hsb];decide) (by rw[hsb];decide) (by rw[hsb,show Array.range (1*1)= #[0] by decide];simp[hx,Instr.fill,Value.cells]) h
theorem qeW (args:Array Value)(W:World):(callFunc 117 args).run Tryz.prog W= .ok (.enter 117 args) W:=by
 simp[callFunc,Tryz.func117,Tryz.f117]
theorem qbT {t:TreeV}{kz z1 z2:List Int}{w0:World}(hT:TreeOk t kz z1 z2 w0)(bl:Nat):Seer t kz z1 z2 w0 117 bl (qil t w0 bl):=by
 refine⟨fun h=>qfz h,fun h hb hF hB=>?_,fun hc h=>?_,fun h hrow hr hi hdl hcl hw hbo hko hdo hd=>?_⟩
 ·obtain⟨lv,vs,h1,h2,h3,h4⟩:=h;exact⟨lv,vs,by rw[hF bl ((h4 bl).2 (.inl rfl))];exact h1,h2,h3.tend hB (fun g hg=>hF g ((h4 g).2 (.inr (.inl hg)))) (fun i g hi hg=>hF g ((h4 g).2 (.inr (.inr ⟨i,hi,hg⟩)))),h4⟩
 ·obtain⟨lv,vs,h1,h2,h3,h4⟩:=h;rw[←qgu t _ hc]at h3 h4;exact⟨lv,vs,h1,h2,h3,h4⟩
 ·rename_i done cur F w row i la rt d bv kv dv;have hlt:=qfz h;obtain⟨lv,vs,h1,h2,h3,h4⟩:=h;obtain⟨b0,hb0⟩:=Ex w.heap.size;have hblw:bl<w.heap.size:=(Ai h1).1;have hw0:w0.heap.size≤b0:=by have:=hw.size;omega
  obtain⟨a1,n1,c1,rfl⟩:=qq hbo;obtain⟨a2,n2,c2,rfl⟩:=qq hko;obtain⟨a3,c3,rfl, -, -⟩:=hdo.hold.slice;obtain⟨la1,ln1,lc1,rfl⟩:=qq h3.1;have hln:ln1=(t.accL done cur).length:=by
   rcases h3.1.2 with⟨e,e2⟩|⟨g,cap,cur,e, -⟩
   ·simp only[Value.slice.injEq]at e;omega
   ·simp only[Value.slice.injEq]at e;omega
  have hbA:Below b0 w (w.alloc (.cells #[.int .i64 t.k,.slice a1 n1 c1,.slice a2 n2 c2,.bool la,.int .i64 (t.outN rt),.slice a3 d.length c3] 73)):=by rw[←hb0];exact Br.alloc Nl _
  have hrA:=Wn w (.cells #[.int .i64 t.k,.slice a1 n1 c1,.slice a2 n2 c2,.bool la,.int .i64 (t.outN rt),.slice a3 d.length c3] 73);rw[hb0]at hrA;have hbAx:=hb0▸hbA;obtain⟨ND,hND⟩:=Ex (t.node kz z1 z2 row i la rt d);have hnd:=fun(W:World) (hb:Below b0 w W)=>qh6 hT (row:=row) (at_:=i) hr (by omega) la rt d (.slice a3 d.length c3) (.slice a1 n1 c1) (.slice a2 n2 c2) W _ (qg hbo (fun g _ g2=>hb.block g (by omega))) (qg hko (fun g _ g2=>hb.block g (by omega))) (hdo.hold.below (hb0▸hb)) hd
  rw[hND]at hnd⊢;have HNO:=hid hnd;have HAP:=hid (qhG t done cur (t.callS kz z1 z2 row i la rt d));rw[qaE,hND]at HAP;have H3:=hid h3;have H4:=hid h4;have HLT:=hid hlt;have HBA:=hid hbA;have HBL:=hid h1;have HDN:=hid (show(done.map (·.map t.outC)).length=row by rw[List.length_map];exact hrow);have HCN:=hid (show(cur.map t.outC).length≤8388608 by rw[List.length_map];exact hcl);have HLN:=hid hln;clear h1 h3 h4 hlt hbo hko hdo hdl hbA hbAx hd hw hT hnd hND hrow hln;unfold yF;go_enter Tryz.func117,Tryz.ntmps117
  go_upto_region 1 with(fail)
  generalize w.alloc (.cells #[.int .i64 t.k,.slice a1 n1 c1,.slice a2 n2 c2,.bool la,.int .i64 (t.outN rt),.slice a3 d.length c3] 73)=wA at*;have hsA:b0<wA.heap.size:=(Ai hrA).1;go_wp2_with ((with_reducible show wpList _ _ _ (Oper.mk _ (Op.load 73 _) _ _ _ _::_) _ _);refine wpList_load_row rfl 73 _ rfl b0 rfl _ _ _ _ hrA Tryz.underlying73 rfl (by kernel_rfl) ?_)
  refine(HNO.out wA HBA.out).mono ?_;rintro e w9 ⟨u,rfl,hu,hb9⟩;obtain⟨u1,u3,rfl, -, -⟩:=hu.hold.slice;have HB9:=hid (HBA.out.trans (hb9.mono (show b0≤wA.heap.size by omega)));have HU:=hid (hu.le (show b0≤wA.heap.size by omega));have HBL9:=hid ((HB9.out.block bl (by omega)).trans HBL.out);have hs9:=hb9.size;have hk9:=KB.of_below (hb0▸HB9.out) (Nat.zero_le _);have HV9:=hid (H3.out.tend hk9.bytes (fun g hg=>HB9.out.block g (by have:=qM H3.out.1 g hg;omega)) (fun i g hi hg=>HB9.out.block g (by
   obtain⟨xs,hx⟩:=(H3.out.2.1 i hi).row;have:=qM hx g hg;omega)))
  clear hu hb9 hrA hk9 HBA HBL H3 HNO;have l9:w9.cell? ⟨bl,0,none⟩=some (.slice la1 ln1 lc1):=qa HBL9.out 0;have s9:bl<w9.heap.size:=by omega
  have f9:=frozen_of_row w9 bl 0 _ _ HBL9.out;obtain⟨il,hil,hzl,hsl,hbl⟩:=info_parts qbc;have KEY: ∃q:Bool,(cur=[]↔q=true)∧(((row:Nat):Int)==(ln1:Int))=q:=by
   refine⟨_,?_,rfl⟩;rw[beq_iff_eq,HLN.out];by_cases hc:cur=[]
   ·subst hc;rw[qbo,HDN.out];simp
   ·rw[Jw t done hc,List.length_append,HDN.out];simp only[hc,false_iff,List.length_singleton];omega
  obtain⟨q,hq,hq2⟩:=KEY;have HQ:=hid hq;clear hq;have hDR:=HDN.out;generalize hDO:done.map (·.map t.outC)=DO at*;generalize hCO:cur.map t.outC=CO at*;have hFb: ∀k,(k=bl∨(Value.slice la1 ln1 lc1).ownBlock=some k∨ ∃i,i<(t.accL done cur).length∧(vs.getD i undef).ownBlock=some k)→F k:=fun k hk=>(H4.out k).2 hk
  clear H4 HLN
  cases q
  case' false=>
   have hcn:cur≠[]:=fun e=>by have:=HQ.out.1 e;cases this
   have hLL:=Jw t done hcn;rw[hDO,hCO]at hLL;have HV:=HV9.out;rw[hLL]at HV hFb;have hHF: ∀k,(k=bl∨(Value.slice la1 ln1 lc1).ownBlock=some k∨ ∃i,i<(DO++[CO]).length∧(vs.getD i undef).ownBlock=some k)→F k∨b0≤k:=fun k hk=> .inl (hFb k hk)
   have HVX:=hid HV;have HFX:=hid hHF;have HTX:=hid (Tend.of_below F (hb0▸HB9.out));have HBX:=hid HBL9.out;have HUX:=hid HU.out;clear HV hFb hHF hLL HV9 HBL9 HU HB9 f9;go_upto_region 4 with(fail)
   clear l9;obtain⟨X,hX⟩:=Ex w9;have hsX:b0≤X.heap.size:=by rw[←hX];omega
   have hblX:bl<X.heap.size:=by rw[←hX];omega
   clear hs9 s9;subst hX;rename World=>X
   generalize la1=av at*;generalize ln1=nv at*;generalize lc1=cv at*;generalize vs=vsX at*
  case' true=>
   have hcn:cur=[]:=HQ.out.2 rfl;have hLL:t.accL done cur=DO:=by rw[hcn,qbo,hDO]
   have hCO0:CO=[]:=by rw[←hCO,hcn];rfl
   have HV:=HV9.out;rw[hLL]at HV hFb;have hbW:Below w9.heap.size w9 (w9.alloc (.cells #[.slice none 0 0] 67)):=Br.alloc Nl _;have hkW:=KB.of_below hbW (Nat.zero_le _);have hVA:=HV.tend hkW.bytes (fun g hg=>hbW.block g (qM HV.1 g hg)) (fun i g hi hg=>hbW.block g (by obtain⟨xs,hx⟩:=(HV.2.1 i hi).row;exact qM hx g hg));have hrW:=Wn w9 (.cells #[.slice none 0 0] 67);have hone:(w9.alloc (.cells #[.slice none 0 0] 67)).ownsRow w0.heap.size 67 1 (.slice (some ⟨w9.heap.size,0,none⟩) 1 1) 1 [.slice none 0 0]:=⟨rfl,.inr ⟨_,1,_,rfl,by omega,hrW,by decide,by decide,rfl,rfl⟩⟩;obtain⟨bN,hbN⟩:=Ex w9.heap.size;rw[show Value.slice (some ⟨w9.heap.size,0,none⟩) 1 1=Value.slice (some ⟨bN,0,none⟩) 1 1 by rw[hbN]]at hone;have hss:(w9.alloc (.cells #[.slice none 0 0] 67)).heap.size=bN+1:=by rw[←hbN];simp
   have HVA:=hid hVA;have HONE:=hid hone;have hblA:=(hbW.block bl s9).trans HBL9.out;have HBLA:=hid hblA;have hne:(Value.slice la1 ln1 lc1).ownBlock≠some bl:=fun e=>yO HVA.out.1 HBLA.out (by decide) bl e rfl
   have HBW:=hid (HB9.out.trans (hbW.mono (show b0≤w9.heap.size by omega)));have HUA:=hid (HU.out.kb hkW);clear hVA hone hblA hbW hkW hrW HV;go_upto_region 4 with(first|((with_reducible show wpList _ _ _ (Oper.mk _ (Op.buildSlice _ _ _) _ _ _ _::_) _ _);refine qbz rfl _ rfl none 0 0 rfl ?_;rw[hbN];generalize w9.alloc (.cells #[.slice none 0 0] 67)=wB at*)|(at_builtin;refine qc3 rfl _ _ _ rfl w0.heap.size 67 (by decide) il (.slice none 0 0) 1 24 Tryz.underlying70 hil hzl hsl hbl rfl (by decide) (.slice la1 ln1 lc1) DO.length vs rfl HVA.out.1 w0.heap.size (.slice (some ⟨bN,0,none⟩) 1 1) 1 [.slice none 0 0] rfl HONE.out (by omega) (by simp[Value.oneCell']) (by unfold maxLen;omega) (by omega) (by omega) ?_;intro v' w' hown' hkb' hsp' hat';have hbl':=(hsp'.block bl (by omega) hne).trans HBLA.out;obtain⟨av,nv,cv,rfl⟩:=qq hown';have c0':w'.cell? ⟨bl,0,none⟩=some (.slice la1 ln1 lc1):=qa hbl' 0;have f0':=frozen_of_row w' bl 0 _ _ hbl';have s0':bl<w'.heap.size:=(Ai hbl').1))
   refine qj ?_;intro X hX;have hXo: ∀k,k≠bl→X.heap[k]? =w'.heap[k]? :=fun k hk=>by rw[hX];exact heap_setCell_other _ _ _ _ hk
   have hsn:RowsV w0.heap.size w' (.slice av nv cv) (vs++[.slice none 0 0]) (DO++[CO]):=by rw[hCO0];exact RowsV.snoc HVA.out hown' hkb' hsp'
   have hle:=hkb'.size;have hsX:b0≤X.heap.size:=by rw[hX];simp[World.setCell];omega
   have hblX:bl<X.heap.size:=by rw[hX];simp[World.setCell];omega
   have HVX:=hid (hsn.off hbl' (by decide) (by decide) (by decide) hXo);have HBX:=hid (show X.heap[bl]? =some (.cells #[.slice av nv cv] 70 (0,0)) by rw[hX];exact heap_setCell_same _ bl 0 _ _ _ hbl');have hbyX: ∀(k:Nat) (c:Array Value),wB.heap[k]? =some (.cells c 5 (0,0))→X.heap[k]? =some (.cells c 5 (0,0)):=fun k c h=>by
    have h2:=hkb'.bytes k c h;rw[hXo k (Ji hbl' (by decide) k h2)];exact h2
   have HUX:=hid (HUA.out.tend hbyX);have HTX:=hid (show Tend F w X from⟨by
    refine(Spare.of_below (fun k=> ¬F k) (hb0▸HBW.out)).trans (T:=fun k=>k≠bl∧(Value.slice la1 ln1 lc1).ownBlock≠some k) ?_ (fun k _ hk=>⟨fun e=>hk (hFb k (.inl e)),fun e=>hk (hFb k (.inr (.inl e)))⟩);refine⟨by rw[hX];exact hsp'.os,by rw[hX];exact hsp'.tape,by rw[hX];exact hsp'.output,by rw[hX];simp[World.setCell];omega,fun k hk hs=>?_⟩;exact(hXo k hs.1).trans (hsp'.block k hk hs.2),fun k c h=>hbyX k c ((KB.of_below (hb0▸HBW.out) (Nat.zero_le _)).bytes k c h)⟩)
   have hvl:=HVA.out.len;have HFX:=hid (show ∀k,(k=bl∨(Value.slice av nv cv).ownBlock=some k∨ ∃i,i<(DO++[CO]).length∧((vs++[Value.slice none 0 0]).getD i undef).ownBlock=some k)→F k∨b0≤k from fun k hk=>by
    rcases hk with hk|hk|⟨i,hi,hk⟩
    ·exact .inl (hFb k (.inl hk))
    ·rcases hat' with h|h
     ·rw[h]at hk;exact .inl (hFb k (.inr (.inl hk)))
     ·rw[h]at hk;simp only[Option.some.injEq]at hk;exact .inr (by omega)
    ·rw[qQ,hvl]at hk;simp only[List.length_append,List.length_singleton]at hi;by_cases hi2:i<DO.length
     ·rw[if_pos hi2]at hk;exact .inl (hFb k (.inr (.inr ⟨i,hi2,hk⟩)))
     ·rw[if_neg hi2,if_pos (by omega)]at hk;cases hk)
   generalize vs++[.slice none 0 0]=vsX at*;clear hX hXo hsn hle hbyX hown' hkb' hsp' hat' hbl' c0' f0' s0' hne hvl hCO0 hcn hLL HBLA HVA HONE HBW HUA HV9 HBL9 HU HB9 f9 l9 hFb hs9 s9 hss hbN
  all_goals
   obtain⟨ib,hib,hzb,hsb,hbb⟩:=info_parts yJ;obtain⟨gl,cap,e, -,hgl,hgc⟩:=qcp HVX.out.1 (by simp);simp only[Value.slice.injEq]at e;obtain⟨rfl,rfl,rfl⟩:=e;have hvl:=HVX.out.len;have hLR:=HVX.out.2.1 DO.length (by simp);rw[qQ,if_neg (by omega),if_pos rfl]at hLR;obtain⟨rv,hrv⟩:=Ex (vsX.getD DO.length undef);have hcw:X.cell? ⟨gl,DO.length,none⟩=some rv:=hgc _ _ (by
    rw[←hrv,Lg,List.getElem?_eq_getElem (by rw[hvl];simp)];rfl)
   obtain⟨cr,hcr⟩:=Yu HVX.out.1 gl rfl;rw[hrv]at hLR;obtain⟨xs,hxo,hxx⟩:=id hLR;obtain⟨ra,rn,rc,rfl⟩:=qq hxo;have hxl:xs.length=CO.length:=by have:=hxo.1;simpa using this
   have hnb:bl≠gl:=fun e=>yO HVX.out.1 HBX.out (by decide) gl rfl e.symm
   have hrb:(Value.slice ra rn rc).ownBlock≠some bl:=fun e=>yO hxo HBX.out (by decide) bl e rfl
   have hrg:(Value.slice ra rn rc).ownBlock≠some gl:=fun e=>yO hxo hcr (by decide) gl e rfl
   have hN:(DO++[CO]).length=row+1:=by simp[hDR]
   rw[hDR]at hcw;generalize hNN:(DO++[CO]).length=N at*;have hNi:(row:Int)<(N:Int):=by omega
   have hNm:(N:Int)≤9223372036854775807:=by omega
   have HN:=hid hN;have hcoN:CO.length≤8388608:=HCN.out;clear hN;have HXO:=hid hxo;have HXX:=hid hxx;have HCW:=hid hcw;have HCR:=hid hcr;have HRV:=hid hrv;have HRB:=hid hrb;have HRG:=hid hrg;have HDR:=hid hDR;have HNN:=hid hNN;clear hxo hxx hcw hcr hrv hrb hrg hDR hgc hLR hNN hvl hDO hCO;have hread: ∀(W:World) (f:Bool),((f=false→Below X.heap.size X W)∧(f=true→Spare (fun k=>(Value.slice ra rn rc).ownBlock≠some k) X W∧KB w0.heap.size X W))→W.cell? ⟨bl,0,none⟩=some (.slice (some ⟨gl,0,none⟩) N cv)∧W.cell? ⟨gl,row,none⟩=some (.slice ra rn rc)∧X.heap.size≤W.heap.size:=fun W f hR=>by
    have h1:W.heap[bl]? =X.heap[bl]? ∧W.heap[gl]? =X.heap[gl]? ∧X.heap.size≤W.heap.size:=by
     cases f
     ·exact⟨(hR.1 rfl).block bl hblX,(hR.1 rfl).block gl hgl,(hR.1 rfl).size⟩
     ·exact⟨(hR.2 rfl).1.block bl hblX HRB.out,(hR.2 rfl).1.block gl hgl HRG.out,(hR.2 rfl).1.size⟩
    refine⟨qa (h1.1.trans HBX.out) 0,?_,h1.2.2⟩;have:=HCW.out
    rw[qa HCR.out row]at this;rw[qa (h1.2.1.trans HCR.out) row];exact this
   refine yW (n:=9) (fun f W=>(f=false→Below X.heap.size X W)∧(f=true→Spare (fun k=>(Value.slice ra rn rc).ownBlock≠some k) X W∧KB w0.heap.size X W)) 8 [.v 20 (.slice (some ⟨gl,0,none⟩) N cv),.v 21 (.int .i64 (row:Nat)),.v 22 (.slice (some ⟨gl,0,none⟩) N cv),.v 23 (.int .i64 (row:Nat)),.v 24 (.pointer (some ⟨gl,row,none⟩)),.v 25 (.slice ra rn rc),.v 26 (.slice u1 ND.length u3),.p 27 (fun u W=> ∃q,u= .slice (some ⟨q,0,none⟩) 1 1∧X.heap.size≤q∧W.heap[q]? =some (.cells #[.slice u1 ND.length u3] 24 (0,0))),.p 28 (fun u W=>ListO w0.heap.size W u (CO++[ND])∧(u.ownBlock=(Value.slice ra rn rc).ownBlock∨ ∀g,u.ownBlock=some g→X.heap.size≤g))] (by exact⟨(fun _ _ hb _ h=>by obtain⟨q,e,h1,h2⟩:=h;exact⟨q,e,h1,qd h2 hb⟩),(fun _ _ hb u h=>⟨h.1.below hb,h.2⟩),trivial⟩) ⟨fun _=>Br.drew,fun h=>(by cases h)⟩ (fun f W W' h hb=>⟨fun e=>(h.1 e).trans (hb.mono (h.1 e).size),fun e=>⟨(h.2 e).1.trans (Spare.of_below _ hb) (fun _ _ h=>h),(h.2 e).2.trans (KB.of_below hb (by have:=(h.2 e).1.size;omega))⟩⟩) ?_ ?_ ?_
   ·repeat' (with_reducible first|exact qx|refine qt ?_ ?_)
    all_goals try
     refine .inr ?_;intro A x W f hA hR hf hdep D K hK;have a1:=hA.2 1 (by decide);conv at a1=>rhs;whnf
     have a2:=hA.2 2 (by decide);conv at a2=>rhs;whnf
     have a6:=hA.2 6 (by decide);conv at a6=>rhs;whnf
     simp only[QX,Q9]at D;have y0:=(hread W f hR).1;have y1:=(hread W f hR).2.1;have y2:=(hread W f hR).2.2;have y3:bl<W.heap.size:=by omega
     have y4:gl<W.heap.size:=by omega
     clear hdep hA;go_simp
     exact hK _ _ BR rfl
    any_goals exact .inl rfl
    all_goals refine .inr ?_
    intro A x W f hA hR hf hdep _ K hK;have g26:=gw hA hdep 6 26;clear hdep hA;have g26':A.tmps[26]?.getD undef= .slice u1 ND.length u3:=by rw[←Lh];exact g26
    go_simp
    exact hK _ _ (Br.alloc Nl _) ⟨W.heap.size,rfl,(hread W f hR).2.2,Wn W _⟩
   ·intro A x W hA hR hdep K hK;have g25:=gw hA hdep 5 25;have g27:(fun u W=> ∃q,u= .slice (some ⟨q,0,none⟩) 1 1∧X.heap.size≤q∧W.heap[q]? =some (.cells #[.slice u1 ND.length u3] 24 (0,0))) (x 27) W:=hdep ⟨7,.data⟩ (by simp) rfl;have a27:A.tmps.getD 27 undef=x 27:=hA.1 27 (by decide);clear hdep hA;have hB:=hR.1 rfl;have ho:=qg HXO.out (fun g _ hg=>hB.block g hg);obtain⟨qb,eq,hq1,hq2⟩:=g27;refine Yp _ _ 67 rfl w0.heap.size 24 ib (.slice none 0 0) 24 Tryz.underlying67 hib hzb hsb hbb rfl (.slice ra rn rc) CO.length xs g25 ho (.slice (some ⟨qb,0,none⟩) 1 1) 1 [.slice u1 ND.length u3] (a27.trans eq) ⟨rfl,by simp[Value.oneCell'],.inr ⟨⟨qb,0,none⟩,1,rfl,jc hq2⟩⟩ (by unfold maxLen;omega) (by omega) (by have:=hB.size;omega) ?_;intro v' w' k1 k2 k3;obtain⟨k4,k5⟩:=qhl ho (by decide) k2 (by have:=hB.size;omega);have hlx: ∀k,(Value.slice ra rn rc).ownBlock=some k→k<X.heap.size:=fun k hk=>qM HXO.out k hk
    have k6:ListO w0.heap.size w' v' (CO++[ND]):=ListO.snoc (w:=W) (vs:=xs) (x:= .slice u1 ND.length u3) (fun i hi=>(HXX.out i hi).kb (KB.of_below hB (Nat.zero_le _))) hxl ((HUX.out.kb (KB.of_below hB (Nat.zero_le _))).le hw0) k1 k4;refine hK v' w' (fun h=>by cases h) ⟨fun h=>(by cases h),fun _=>⟨(Spare.of_below _ hB).trans k5 (fun _ _ h=>h),(KB.of_below hB (by omega)).trans k4⟩⟩ ⟨.inr (fun _ h=>h),.inr (fun _ h=>h),.inr (fun _ h=>h),.inr (fun _ h=>h),.inr (fun _ h=>h),.inr (fun _ h=>h),.inr (fun _ h=>h),.inr (fun u h=>by obtain⟨q,e,j1,j2⟩:=h;exact⟨q,e,j1,(k5.block q (Ai j2).1 (fun e2=>by have:=hlx q e2;omega)).trans j2⟩),.inl rfl,trivial⟩ ⟨k6,?_⟩;rcases k3 with k3|k3
    ·exact .inl k3
    ·refine .inr fun g hg=>?_
     rw[k3]at hg;cases hg;exact hB.size
   intro x W hR hall;obtain⟨-,e28, -⟩:=hall;change (fun u W=>ListO w0.heap.size W u (CO++[ND])∧(u.ownBlock=(Value.slice ra rn rc).ownBlock∨ ∀g,u.ownBlock=some g→X.heap.size≤g)) (x 28) W at e28
   obtain⟨y0,y1,y2⟩:=hread W true hR;obtain⟨hsp,hkb⟩:=hR.2 rfl;obtain⟨ho8,hat8⟩:=e28;obtain⟨ys,hys⟩:=ho8.row;obtain⟨a8,n8,c8,e28⟩:=qq hys;rw[e28]at ho8 hat8;refine qp ?_;simp only[QE,Act.put,Ls,e28];have hput:=RowsV.put (w1:=W) (x:= .slice a8 n8 c8) HVX.out ho8 hkb (by rw[HRV.out];exact hsp) (by rw[HRV.out];exact hat8);rw[HDR.out]at hput;have hglW:W.heap[gl]? =some (.cells cr 67 (0,0)):=(hsp.block gl hgl HRG.out).trans HCR.out;have hblW:W.heap[bl]? =some (.cells #[.slice (some ⟨gl,0,none⟩) N cv] 70 (0,0)):=(hsp.block bl hblX HRB.out).trans HBX.out;have fr8:W.frozen? ⟨gl,row,none⟩=false:=frozen_of_row W gl row _ _ hglW;have y4:gl<W.heap.size:=by omega
   have HPUT:=hid hput;have HGLW:=hid hglW;have HBLW:=hid hblW;have HSP:=hid hsp;have HKB:=hid hkb;have HAT:=hid hat8;generalize x 27=x27;clear hput hglW hblW hsp hkb hat8 hys ho8 e28 hR hread y0;go_wp2_with fail
   refine qp ?_;go_wp2_with fail
   refine qs ?_;have hYo: ∀k,k≠gl→(W.setCell ⟨gl,row,none⟩ (.slice a8 n8 c8)).heap[k]? =W.heap[k]? :=fun k hk=>heap_setCell_other _ _ _ _ hk
   have hYs:(W.setCell ⟨gl,row,none⟩ (.slice a8 n8 c8)).heap.size=W.heap.size:=by simp[World.setCell]
   have hby: ∀(k:Nat) (c:Array Value),X.heap[k]? =some (.cells c 5 (0,0))→(W.setCell ⟨gl,row,none⟩ (.slice a8 n8 c8)).heap[k]? =some (.cells c 5 (0,0)):=fun k c h=>by
    have h3:=HKB.out.bytes k c h;rw[hYo k (Ji HGLW.out (by decide) k h3)];exact h3
   have HBY:=hid hby;have HYO:=hid hYo;have HYS:=hid hYs;have HO5:=hid (show(W.setCell ⟨gl,row,none⟩ (.slice a8 n8 c8)).os=w.os∧(W.setCell ⟨gl,row,none⟩ (.slice a8 n8 c8)).tape=w.tape∧(W.setCell ⟨gl,row,none⟩ (.slice a8 n8 c8)).output=w.output from⟨HSP.out.os.trans HTX.out.sp.os,HSP.out.tape.trans HTX.out.sp.tape,HSP.out.output.trans HTX.out.sp.output⟩);clear hby hYo hYs fr8 y1 y2 y4;generalize W.setCell ⟨gl,row,none⟩ (.slice a8 n8 c8)=Y at*;go_wp2
   go_ret
   have hNN:=HNN.out;simp only[List.length_append,List.length_singleton]at hNN;have hls:vsX.length=N:=by have:=HVX.out.len;rw[HNN.out]at this;exact this
   refine⟨_,fun k=>k=bl∨(Value.slice (some ⟨gl,0,none⟩) N cv).ownBlock=some k∨ ∃i,i<(DO++[CO++[ND]]).length∧((vsX.set row (.slice a8 n8 c8)).getD i undef).ownBlock=some k,rfl,by rw[hb0];exact HUX.out.tend HBY.out,?_,⟨_,_,(HYO.out bl hnb).trans HBLW.out,h2,by rw[HAP.out];exact HPUT.out,fun k=>by rw[HAP.out]⟩,?_,fun k c h=>HBY.out k c (HTX.out.bytes k c h)⟩
   ·rw[hb0];rintro k (hk|hk|⟨i,hi,hk⟩)
    ·exact HFX.out k (.inl hk)
    ·exact HFX.out k (.inr (.inl hk))
    ·simp only[List.length_append,List.length_singleton]at hi;rw[Y1 _ _ _ _ _ (by omega)]at hk;by_cases hi2:row=i
     ·rw[if_pos hi2]at hk;rcases HAT.out with h|h
      ·rw[h]at hk;exact HFX.out k (.inr (.inr ⟨row,by omega,by rw[←HDR.out,HRV.out];exact hk⟩))
      ·exact .inr (by have:=h k hk;omega)
     ·rw[if_neg hi2]at hk;exact HFX.out k (.inr (.inr ⟨i,by omega,hk⟩))
   ·refine HTX.out.sp.trans (T:=fun k=>k≠gl∧(Value.slice ra rn rc).ownBlock≠some k) ⟨HO5.out.1.trans HTX.out.sp.os.symm,HO5.out.2.1.trans HTX.out.sp.tape.symm,HO5.out.2.2.trans HTX.out.sp.output.symm,by rw[HYS.out];exact HSP.out.size,fun k hk hs=>(HYO.out k hs.1).trans (HSP.out.block k hk hs.2)⟩ (fun k hk hF=>⟨fun e=>?_,fun e=>?_⟩)
    ·rcases HFX.out k (.inr (.inl (by rw[e];rfl)))with h|h
     ·exact hF h
     ·omega
    ·rcases HFX.out k (.inr (.inr ⟨row,by omega,by rw[←HDR.out,HRV.out];exact e⟩))with h|h
     ·exact hF h
     ·omega
theorem qbN (t:TreeV)(kz z1 z2 zs:List Int){m i:Nat}(h:i<m):(t.allC kz z1 z2 zs m).getD i []=t.callsR kz z1 z2 zs i:=by simp[TreeV.allC,Lg,h]
theorem J7 {t:TreeV}(h:t.validE=0)(hl:0≤t.l∧t.l≤4294967295)(kz z1 z2 zs:List Int)(r:Nat):1≤(t.callsR kz z1 z2 zs r).length∧(t.callsR kz z1 z2 zs r).length≤zs.length+1:=by
 have:=zO h hl kz z1 z2 zs r
 unfold TreeV.callsR;rw[qO];exact⟨this.1,this.2.1⟩
theorem RowsV.nil (B:Nat)(w:World):RowsV B w (.slice none 0 0) [] []:=⟨Wo _ _ _ _,fun i hi=>by simp at hi,fun i j g _ hj=>by simp at hj⟩
theorem RowsV.le {B b:Nat}{w:World}{lv:Value}{vs:List Value}{LL:List (List (List Int))}(h:RowsV B w lv vs LL)(hb:b≤B):RowsV b w lv vs LL:=⟨ownsRow_le h.1 hb,fun i hi=>(h.2.1 i hi).le hb,h.2.2⟩
theorem qgK (t:TreeV)(v:Value)(w:World)(h:t.validE≠0):
  Calls Tryz.prog 73 #[t.val,v] w fun e w'=>e= .returned (.tuple #[.slice none 0 0,.int .i64 t.validE])∧Below w.heap.size w w':=by
 obtain⟨b0,hb0⟩:=Ex w.heap.size;have HVL:=hid (zT t);have hbA:Below b0 w (w.alloc (.cells #[.int .i64 t.k,.int .i64 t.d,.int .i64 t.f,.int .i64 t.p,.int .u32 t.l,.int .i64 t.i,.slice t.ka t.kl t.kc,.slice t.sa t.sl t.sc,.slice t.pa t.pl t.pc] 26)):=by rw[←hb0];exact Br.alloc Nl _
 have hrA:=Wn w (.cells #[.int .i64 t.k,.int .i64 t.d,.int .i64 t.f,.int .i64 t.p,.int .u32 t.l,.int .i64 t.i,.slice t.ka t.kl t.kc,.slice t.sa t.sl t.sc,.slice t.pa t.pl t.pc] 26);rw[hb0]at hrA;generalize t.validE=ev at*;have hq:(ev != 0)=true:=by rw[bne_iff_ne];exact h
 clear h;unfold TreeV.val at*;go_enter Tryz.func73,Tryz.ntmps73
 go_upto_region 1 with(fail)
 generalize w.alloc (.cells #[.int .i64 t.k,.int .i64 t.d,.int .i64 t.f,.int .i64 t.p,.int .u32 t.l,.int .i64 t.i,.slice t.ka t.kl t.kc,.slice t.sa t.sl t.sc,.slice t.pa t.pl t.pc] 26)=wA at*;go_wp2_with ((with_reducible show wpList _ _ _ (Oper.mk _ (Op.load 26 _) _ _ _ _::_) _ _);refine wpList_load_row rfl 26 _ rfl b0 rfl _ _ _ _ hrA Tryz.underlying26 rfl (by kernel_rfl) ?_)
 refine(HVL.out wA).mono ?_;rintro e w2 ⟨rfl,hb2⟩;have HB2:=hid (hbA.trans (hb2.mono (by have:=(Ai hrA).1;omega)));clear hrA hbA hb2;go_wp2
 go_ret2
 exact⟨rfl,by rw[hb0];exact HB2.out⟩
theorem qgM (t:TreeV)(kz z1 z2 zs:List Int)(v:Value)(w:World)(h:TreeOk t kz z1 z2 w)(hv:Hold w v zs)(hn:zs.length≤4194304):
  Calls Tryz.prog 73 #[t.val,v] w fun e w'=> ∃u,e= .returned (.tuple #[u,.int .i64 0])∧(∃R,t.topAt kz z1 z2 (t.leafZ kz z1 z2 zs) R∧ ∃vs,RowsV w.heap.size w' u vs (t.accL (t.allC kz z1 z2 zs R) (t.callsR kz z1 z2 zs R)))∧Below w.heap.size w w':=by
 obtain⟨b0,hb0⟩:=Ex w.heap.size;have hvl:=zT t;simp only[h.v]at hvl;have HVL:=hid hvl;have HT:=hid h;have HCU:=hid (fun(W:World) (hb:Below b0 w W)=>qiE t h.v h.l zs v W (hv.below (hb0▸hb)) (by omega));have HRO:=hid (fun(bl:Nat) (W:World) (x:Value) (F0:Nat→Prop) (hw:Below w.heap.size w W) (hI:qil t w bl [] [] F0 W) (hx:ListO w.heap.size W x (QH t.ln zs)) (hxF: ∀g,x.ownBlock=some g→ ¬F0 g)=>qgJ (qbT h bl) h hn x W F0 hw hI hx hxF qeW);obtain⟨va,vc,rfl, -, -⟩:=hv.slice;have hbA:Below b0 w (w.alloc (.cells #[.int .i64 t.k,.int .i64 t.d,.int .i64 t.f,.int .i64 t.p,.int .u32 t.l,.int .i64 t.i,.slice t.ka t.kl t.kc,.slice t.sa t.sl t.sc,.slice t.pa t.pl t.pc] 26)):=by rw[←hb0];exact Br.alloc Nl _
 have hrA:=Wn w (.cells #[.int .i64 t.k,.int .i64 t.d,.int .i64 t.f,.int .i64 t.p,.int .u32 t.l,.int .i64 t.i,.slice t.ka t.kl t.kc,.slice t.sa t.sl t.sc,.slice t.pa t.pl t.pc] 26);rw[hb0]at hrA;generalize hCZ:QH t.ln zs=CZ at*;clear h hv hvl hCZ;unfold TreeV.val at*;go_enter Tryz.func73,Tryz.ntmps73
 go_upto_region 1 with(fail)
 generalize w.alloc (.cells #[.int .i64 t.k,.int .i64 t.d,.int .i64 t.f,.int .i64 t.p,.int .u32 t.l,.int .i64 t.i,.slice t.ka t.kl t.kc,.slice t.sa t.sl t.sc,.slice t.pa t.pl t.pc] 26)=wA at*;go_wp2_with ((with_reducible show wpList _ _ _ (Oper.mk _ (Op.load 26 _) _ _ _ _::_) _ _);refine wpList_load_row rfl 26 _ rfl b0 rfl _ _ _ _ hrA Tryz.underlying26 rfl (by kernel_rfl) ?_)
 refine(HVL.out wA).mono ?_;rintro e w2 ⟨rfl,hb2⟩;have hr2:=qd hrA hb2;have hB2:=hbA.trans (hb2.mono (by have:=(Ai hrA).1;omega));have HB2:=hid hB2;have hs2:b0<w2.heap.size:=(Ai hr2).1;clear hrA hbA hb2 hB2;go_upto_region 5 with(fail)
 refine qj ?_;intro V hV;obtain⟨bl,hbl⟩:=Ex w2.heap.size;have hrB:V.heap[bl]? =some (.cells #[.slice none 0 0] 70 (0,0)):=by rw[hV,←hbl];exact Wn _ _
 have hbV:Below bl w2 V:=by rw[hV,←hbl];exact Br.alloc Nl _
 have hrV:V.heap[b0]? =some (.cells #[.int .i64 t.k,.int .i64 t.d,.int .i64 t.f,.int .i64 t.p,.int .u32 t.l,.int .i64 t.i,.slice t.ka t.kl t.kc,.slice t.sa t.sl t.sc,.slice t.pa t.pl t.pc] 26 (0,0)):=(hbV.block b0 (by omega)).trans hr2;have HBV:=hid (HB2.out.trans (hbV.mono (show b0≤bl by omega)));have hsV:bl<V.heap.size:=(Ai hrB).1;have hacc:qil t w bl [] [] (fun k=>k=bl) V:=⟨.slice none 0 0,[],hrB,by omega,RowsV.nil _ _,fun k=>⟨fun h=> .inl h,fun h=>by
  rcases h with h|h|⟨i,hi,h⟩
  ·exact h
  ·cases h
  ·simp[TreeV.accL]at hi⟩⟩
 have HACC:=hid hacc;rw[hbl];have hb0l:b0<bl:=by omega
 clear hV hbV hr2 hbl hrB hacc;refine qC (n:=5) (w0:=V) (B:=V.heap.size) [.v 13 (.agg #[.int .i64 t.k,.int .i64 t.d,.int .i64 t.f,.int .i64 t.p,.int .u32 t.l,.int .i64 t.i,.slice t.ka t.kl t.kc,.slice t.sa t.sl t.sc,.slice t.pa t.pl t.pc]),.v 14 (.agg #[.int .i64 t.k,.int .i64 t.d,.int .i64 t.f,.int .i64 t.p,.int .u32 t.l,.int .i64 t.i,.slice t.ka t.kl t.kc,.slice t.sa t.sl t.sc,.slice t.pa t.pl t.pc]),.v 15 (.slice va zs.length vc),.p 16 (fun u W=>ListO V.heap.size W u CZ),.v 17 (.func (.func 117) #[] #[.pointer (some ⟨bl,0,none⟩)])] (by exact⟨(fun _ _ _ h hb=>ListO.below h hb),trivial⟩) Br.drew Nl ?_ ?_
 ·repeat' (with_reducible first|exact qx|refine qt ?_ ?_)
  ·intro AA x W hA hW hBW hdep D K hK;have a2:=hA.2 2 (by decide);conv at a2=>rhs;whnf
   clear hdep hA;exact wp_load_row 26 _ rfl b0 a2 _ _ _ _ (qd hrV hW) Tryz.underlying26 rfl (by kernel_rfl) (hK _ _ Br rfl)
  ·intro AA x W hA hW hBW hdep D K hK;have a2:=hA.2 2 (by decide);conv at a2=>rhs;whnf
   clear hdep hA;exact wp_load_row 26 _ rfl b0 a2 _ _ _ _ (qd hrV hW) Tryz.underlying26 rfl (by kernel_rfl) (hK _ _ Br rfl)
  ·intro AA x W hA hW hBW hdep D K hK;have a1:=hA.2 1 (by decide);conv at a1=>rhs;whnf
   clear hdep hA;go_simp
   exact hK _ _ Br rfl
  ·intro AA x W hA hW hBW hdep _ K hK;have g14:=gv hA hdep 1 14;have g15:=gv hA hdep 2 15;clear hdep hA;go_simp
   refine(HCU.out W (HBV.out.trans (hW.mono (by omega)))).mono ?_;rintro e w5 ⟨u,rfl,ho,hb5⟩;exact hK _ _ hb5 (ho.le hBW)
  ·intro AA x W hA hW hBW hdep D K hK;have a7:=hA.2 7 (by decide);conv at a7=>rhs;whnf
   clear hdep hA;go_simp
   exact hK _ _ Br rfl
 intro x W hW hBW hall;obtain⟨e16, -⟩:=hall;change (fun u W=>ListO V.heap.size W u CZ) (x 16) W at e16
 refine qp ?_;simp only[QE,Act.put,Ls];generalize x 16=X at*;have hxF: ∀g,X.ownBlock=some g→ ¬g=bl:=fun g hg e=>by
  obtain⟨vs,ho, -⟩:=e16;rcases ho.2 with⟨rfl, -⟩|⟨g2,cap,cur,rfl,h5, -⟩
  ·cases hg
  ·simp only[Value.ownBlock,Option.some.injEq]at hg;omega
 have hbW:=HBV.out.trans (hW.mono (show b0≤V.heap.size by omega));have hk:=KB.of_below hW (Nat.zero_le _);have hacW:=(qbT HT.out bl).keep HACC.out (hW.mono (show w.heap.size≤V.heap.size by omega)) (fun k hk=>hW.block k (by rw[show k=bl from hk];exact hsV)) hk.bytes;have HR:=hid (HRO.out bl W X (fun k=>k=bl) (by rw[hb0];exact hbW) hacW (by rw[hb0];exact e16.le (by omega)) hxF);have HBW:=hid hbW;have hblW:bl<W.heap.size:=by have:=hW.size;omega
 clear e16 hxF hbW hk hacW HRO HACC hrV;go_wp2_with fail
 refine HR.out.mono ?_;rintro e w6 ⟨rfl,⟨R,F',hR,hI, -⟩,hb6, -⟩;go_wp2_with fail
 refine qs ?_;obtain⟨lv,vs,l1,l2,l3, -⟩:=hI;obtain⟨la1,ln1,lc1,rfl⟩:=qq l3.1;have c0:w6.cell? ⟨bl,0,none⟩=some (.slice la1 ln1 lc1):=qa l1 0;have s0:bl<w6.heap.size:=(Ai l1).1;have HL3:=hid l3;have HB6:=hid hb6;have HTOP:=hid hR;clear l1 l3 hb6 hR;go_wp2
 go_ret2
 exact⟨_,rfl,⟨R,HTOP.out,_,HL3.out⟩,(show Below w.heap.size w W by rw[hb0];exact HBW.out).trans HB6.out⟩
def TreeV.rowsZ (t:TreeV)(kz z1 z2 zs:List Int):List (List (List Int)):=if t.validE=0 then(t.allC kz z1 z2 zs ((t.rowsOf zs.length).length - 1+1)).map (·.map t.outC) else []
theorem qgL (t:TreeV)(kz z1 z2 zs:List Int)(v:Value)(w:World)(hl:0≤t.l∧t.l≤4294967295)(hk:Hold w (.slice t.ka t.kl t.kc) kz)(hs:Hold w (.slice t.sa t.sl t.sc) z1)(hp:Hold w (.slice t.pa t.pl t.pc) z2)(hv:Hold w v zs)(hn:zs.length≤4194304):
  Calls Tryz.prog 73 #[t.val,v] w fun e w'=> ∃u vs,e= .returned (.tuple #[u,.int .i64 t.validE])∧RowsV w.heap.size w' u vs (t.rowsZ kz z1 z2 zs)∧Below w.heap.size w w':=by
 unfold TreeV.rowsZ;by_cases h:t.validE=0
 ·refine(qgM t kz z1 z2 zs v w ⟨h,hl,hk,hs,hp⟩ hv hn).mono ?_;rintro e w' ⟨u,rfl,⟨R,hR,vs,ho⟩,hb⟩
  have hL:=Qb h hl kz z1 z2 zs;have hT:=qc6 (yA h hn) kz z1 z2 (Yg h hl kz z1 z2 zs) hL.2.2;rw[qaC hR hT]at ho;refine⟨u,vs,by rw[h],?_,hb⟩;rw[if_pos h,TreeV.allC_succ,List.map_append];rw[Jw t _ (List.length_pos_iff.1 (J7 h hl kz z1 z2 zs _).1)]at ho;exact ho
 ·refine(qgK t v w h).mono ?_;rintro e w' ⟨rfl,hb⟩
  exact⟨_,[],rfl,by rw[if_neg h];exact RowsV.nil _ _,hb⟩
end Go.Proofs.YtahenngmaoellaaGreat
