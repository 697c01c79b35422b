/- The pool's small functions, on both sides: Valid, Buffers, in, inst. No condition. -/
import Derived.Test.YthjoojnlnlmljaaGreatG26
import Derived.Test.YthjoojnlnlmljaaGreatP00
import Derived.Test.YthjoojnlnlmljaaGreatG02
import Derived.Lib.SmallJoins
import Derived.Lib.Hide
import Derived.RangeFuncRecord
set_option linter.all false
set_option maxRecDepth 100000
set_option maxHeartbeats 8000000
namespace Go.Proofs.YthjoojnlnlmljaaGreat
open Go.ChangeShapes Go.WideShapes Go.ChangeAt Go.RowKit Go.Joins
open Go.Lib (hid)
attribute [local go_sem] Oper.semAt_some
theorem Qp {W:World}{b:Nat}{c:Array Value}{T:TypeId}{fr:Nat×Nat}(h:W.heap[b]? =some (.cells c T fr))(i:Nat):W.cell? ⟨b,i,none⟩=c[i]? :=by simp[World.cell?,h]
theorem Yt {W:World}{b:Nat}{cs:Array Value}{T:TypeId}(h:W.heap[b]? =some (Obj.cells cs T (0,0))):(∀o,W.cell? ⟨b,o,none⟩=cs[o]?)∧(∀o,W.frozen? ⟨b,o,none⟩=false):=
  ⟨fun o=>Qp h o,fun o=>by simp[World.frozen?,h]⟩
theorem qfS {W q:World}(D:Below W.heap.size W q):(∀b o,b<W.heap.size→q.cell? ⟨b,o,none⟩=W.cell? ⟨b,o,none⟩)∧(∀b o,b<W.heap.size→q.frozen? ⟨b,o,none⟩=W.frozen? ⟨b,o,none⟩):=
  ⟨fun b o h=>D.cell (p:=⟨b,o,none⟩) h,fun b o h=>D.frozen (p:=⟨b,o,none⟩) h⟩
theorem qB {w q:World}(o:Obj)(D:Below (w.alloc o).heap.size (w.alloc o) q):Below w.heap.size w q:=
  (Below.alloc Br Nl o).trans (D.mono (by simp))
theorem qbl {k:IntKind}{a b:Int}{v:Value}(h:a=b):Ending.returned (.tuple #[.int k a,v])= .returned (.tuple #[.int k b,v]):=by rw[h]
def QJ (k q:Int):Prop:=1≤k∧k≤256∧1≤q∧q≤1024
instance (k q:Int):Decidable (QJ k q):=by unfold QJ;infer_instance
def Qu (k q:Int):Int:=if QJ k q then 0 else 150
def yS (k q:Int):Int:=if QJ k q then min (q+k) 64 else 0
theorem qdX (k q:Int)(w:World):Calls Tryz.prog 151 #[.agg #[.int .i64 k,.int .i64 q]] w fun e w'=>e= .returned (.int .i64 (Qu k q))∧Below w.heap.size w w':=by
  have G: ∀x:Int,Qu k q=x→ ∀e:Int,e=x→Ending.returned (.int .i64 e)= .returned (.int .i64 (Qu k q)):=fun x h e I=>by rw[h,I]
  have D:=hid G;clear G;by_cases U:k<1
  · have o:=hid (show Qu k q=150 by unfold Qu;rw[if_neg (by unfold QJ;omega)])
    go_enter Tryz.func151,Tryz.ntmps151
    go_wp2
    go_ret
    exact⟨D.out _ o.out _ rfl,Br.alloc Nl _⟩
  by_cases J:256<k
  · have o:=hid (show Qu k q=150 by unfold Qu;rw[if_neg (by unfold QJ;omega)])
    go_enter Tryz.func151,Tryz.ntmps151
    go_wp2
    go_ret
    exact⟨D.out _ o.out _ rfl,Br.alloc Nl _⟩
  by_cases O:q<1
  · have o:=hid (show Qu k q=150 by unfold Qu;rw[if_neg (by unfold QJ;omega)])
    go_enter Tryz.func151,Tryz.ntmps151
    go_wp2
    go_ret
    exact⟨D.out _ o.out _ rfl,Br.alloc Nl _⟩
  by_cases V:1024<q
  · have o:=hid (show Qu k q=150 by unfold Qu;rw[if_neg (by unfold QJ;omega)])
    go_enter Tryz.func151,Tryz.ntmps151
    go_wp2
    go_ret
    exact⟨D.out _ o.out _ rfl,Br.alloc Nl _⟩
  · have o:=hid (show Qu k q=0 by unfold Qu;rw[if_pos (by unfold QJ;omega)])
    go_enter Tryz.func151,Tryz.ntmps151
    go_wp2
    go_ret
    exact⟨D.out _ o.out _ rfl,Br.alloc Nl _⟩
theorem qbm (k q:Int)(w:World):Calls Tryz.prog 83 #[.agg #[.int .i64 k,.int .i64 q]] w fun e w'=>e= .returned (.int .i64 (Qu k q))∧Below w.heap.size w w':=by
  have G: ∀x:Int,Qu k q=x→ ∀e:Int,e=x→Ending.returned (.int .i64 e)= .returned (.int .i64 (Qu k q)):=fun x h e I=>by rw[h,I]
  have D:=hid G;clear G;by_cases U:k<1
  · have o:=hid (show Qu k q=150 by unfold Qu;rw[if_neg (by unfold QJ;omega)])
    go_enter Tryz.func83,Tryz.ntmps83
    go_wp2
    go_ret
    exact⟨D.out _ o.out _ rfl,Br.alloc Nl _⟩
  by_cases J:256<k
  · have o:=hid (show Qu k q=150 by unfold Qu;rw[if_neg (by unfold QJ;omega)])
    go_enter Tryz.func83,Tryz.ntmps83
    go_wp2
    go_ret
    exact⟨D.out _ o.out _ rfl,Br.alloc Nl _⟩
  by_cases O:q<1
  · have o:=hid (show Qu k q=150 by unfold Qu;rw[if_neg (by unfold QJ;omega)])
    go_enter Tryz.func83,Tryz.ntmps83
    go_wp2
    go_ret
    exact⟨D.out _ o.out _ rfl,Br.alloc Nl _⟩
  by_cases V:1024<q
  · have o:=hid (show Qu k q=150 by unfold Qu;rw[if_neg (by unfold QJ;omega)])
    go_enter Tryz.func83,Tryz.ntmps83
    go_wp2
    go_ret
    exact⟨D.out _ o.out _ rfl,Br.alloc Nl _⟩
  · have o:=hid (show Qu k q=0 by unfold Qu;rw[if_pos (by unfold QJ;omega)])
    go_enter Tryz.func83,Tryz.ntmps83
    go_wp2
    go_ret
    exact⟨D.out _ o.out _ rfl,Br.alloc Nl _⟩
theorem YV (k q:Int)(w:World):Calls Tryz.prog 119 #[.agg #[.int .i64 k,.int .i64 q]] w fun e w'=>e= .returned (.tuple #[.int .i64 (yS k q),.int .i64 (Qu k q)])∧Below w.heap.size w w':=by
  have D:=hid (qdX k q);by_cases h:QJ k q
  · by_cases h5:q+k<64
    · have I:=hid (show yS k q=q+k by unfold yS;rw[if_pos h];omega)
      have G:=hid (show Qu k q=0 by unfold Qu;rw[if_pos h]);rw[I.out];rw[G.out]at D⊢;obtain⟨h1,X,Y,Z⟩:=h;go_enter Tryz.func119,Tryz.ntmps119
      go_wp2_with fail
      refine(D.out _).mono ?_;rintro r J ⟨rfl,o⟩;obtain⟨O,U⟩:=qfS o;have V:w.heap.size<J.heap.size:=by have:=o.size;simp at this;omega
      go_wp2
      all_goals exact Bp (results_tmp2 rfl _ _ _) rfl ⟨by first|rfl|exact qbl (by omega),qB _ o⟩
    · have I:=hid (show yS k q=64 by unfold yS;rw[if_pos h];omega)
      have G:=hid (show Qu k q=0 by unfold Qu;rw[if_pos h]);rw[I.out];rw[G.out]at D⊢;obtain⟨h1,X,Y,Z⟩:=h;go_enter Tryz.func119,Tryz.ntmps119
      go_wp2_with fail
      refine(D.out _).mono ?_;rintro r J ⟨rfl,o⟩;obtain⟨O,U⟩:=qfS o;have V:w.heap.size<J.heap.size:=by have:=o.size;simp at this;omega
      go_wp2
      all_goals exact Bp (results_tmp2 rfl _ _ _) rfl ⟨by first|rfl|exact qbl (by omega),qB _ o⟩
  · have I:=hid (show yS k q=0 by unfold yS;rw[if_neg h])
    have G:=hid (show Qu k q=150 by unfold Qu;rw[if_neg h]);rw[I.out];rw[G.out]at D⊢;go_enter Tryz.func119,Tryz.ntmps119
    go_wp2_with fail
    refine(D.out _).mono ?_;rintro r J ⟨rfl,o⟩;go_wp2
    exact Bp (results_tmp2 rfl _ _ _) rfl ⟨rfl,qB _ o⟩
theorem qdj {P:Program}{fn:Func}{tmps:Array Value}{W:World}{b s:Nat}{G I D q:Value}{T:TypeId}{fr:Nat×Nat}
    (X:fn.results= #[.cell s 243]) (V:tmps[s]?.getD undef= .pointer (some ⟨b,0,none⟩))
    (o:W.heap[b]? =some (Obj.cells #[G,I,D,q] T fr)) (U:P=Tryz.prog):
    (results fn tmps).run P W= .ok (.agg #[G,I,D,q]) W:=by
  subst U;have O:=Qp o 0;have c1:=Qp o 1;have c2:=Qp o 2;have J:=Qp o 3;simp[results,X,V,go_sem,O,c1,c2,J]
def Ym (l:List Int)(n j:Nat):Int:=if j<n then l.getD j 0 else 0
theorem yU (op:Int)(l:List Int)(hl:l.length≤3)(v:Value)(w:World)(hv:(l=[]∧v= .slice none 0 0)∨ ∃b o,v= .slice (some ⟨b,0,none⟩) l.length o∧w.heap[b]? =some (Obj.cells (l.map fun z=>Value.int .i64 z).toArray 3 (0,0))):
    Calls Tryz.prog 150 #[.int .i64 op,v] w fun e w'=>e= .returned (.agg #[.int .i64 op,.int .i64 (l.getD 0 0),.int .i64 (l.getD 1 0),.int .i64 (l.getD 2 0)])∧Below w.heap.size w w':=by
  have X: ∀j (x:Int),l[j]? =some x→ ∃b,v= .slice (some ⟨b,0,none⟩) l.length (match v with| .slice _ _ c=>c|_=>0)∧b<w.heap.size∧w.cell? ⟨b,j,none⟩=some (.int .i64 x):=by
    intro j x hj;rcases hv with⟨rfl,rfl⟩|⟨b,o,rfl,q⟩
    · simp at hj
    · refine⟨b,rfl,(Ai q).1,?_⟩
      rw[Qp q];simp[hj]
  obtain⟨a,o,rfl⟩: ∃a o,v= .slice a l.length o:=by
    rcases hv with⟨rfl,rfl⟩|⟨b,o,rfl,q⟩
    · exact⟨_,_,rfl⟩
    · exact⟨_,_,rfl⟩
  have HC:=hid X;clear X hv;have f0: ∀j,Ym l 0 j=0:=fun j=>rfl
  have aa: ∀j,Ym l l.length j=l.getD j 0:=fun j=>by
    unfold Ym;split
    · rfl
    · simp[Lg,List.getElem?_eq_none (show l.length≤j by omega)]
  have F0:=hid f0;have FE:=hid aa;clear f0 aa;go_enter Tryz.func150,Tryz.ntmps150
  go_wp2_with fail
  go_loopw [12] (fun i wr=> ∃k:Nat,i= .int .i64 k∧k≤l.length∧Below w.heap.size w wr∧w.heap.size+1<wr.heap.size∧(∃c T,wr.heap[w.heap.size]? =some (Obj.cells c T (0,0))∧c.size=4)∧wr.heap[w.heap.size+1]? =some (Obj.cells #[.int .i64 op,.int .i64 (Ym l k 0),.int .i64 (Ym l k 1),.int .i64 (Ym l k 2)] 243 (0,0))) (fun i _=>l.length - (intOf i).toNat)
  case atStart=>exact⟨0,rfl,Nat.zero_le _,(Br.alloc Nl _).alloc (by simp) _,by simp,⟨_,_,(Bh _ _ _ (by simp)).trans (Wn _ _),rfl⟩,by rw[F0.out,F0.out,F0.out];exact qn _ _ (by simp)⟩
  case round=>
    obtain⟨k,rfl,hk,q,hs,⟨c,T,hR,V⟩,hI⟩:=hrel;obtain⟨cI,fI⟩:=Yt hI;obtain⟨cR,fR⟩:=Yt hR;have HI:=hid hI;have HR:=hid hR;have qI:w.heap.size<wr.heap.size:=by omega
    clear hI hR;by_cases Z:k<l.length
    · obtain⟨b,hv,ad,ab⟩:=HC.out k l[k] (by simp[Z])
      simp only[Value.slice.injEq,and_true]at hv;subst hv;have ae:=(q.cell (p:=⟨b,k,none⟩) ad).trans ab;clear ab cR fR;rcases(show k=0∨k=1∨k=2 by omega)with rfl|rfl|rfl
      · have U:Ym l (0+1) 0=l[0]:=by unfold Ym;rw[if_pos (by omega)];simp[Lg,Z]
        have I:Ym l (0+1) 1=Ym l 0 1:=by unfold Ym;rw[if_neg (by omega),if_neg (by omega)]
        have O:Ym l (0+1) 2=Ym l 0 2:=by unfold Ym;rw[if_neg (by omega),if_neg (by omega)]
        have G:=hid U;have J:=hid I;have D:=hid O;clear U I O;go_wp2
        refine⟨⟨0+1,rfl,by omega,q.trans ⟨rfl,rfl,rfl,by simp,fun g hg=>Below.heap_setCell _ _ _ _ (by show g≠w.heap.size+1;omega)⟩,by simp;omega,⟨c,T,(Below.heap_setCell _ _ _ _ (by show w.heap.size≠w.heap.size+1;omega)).trans HR.out,V⟩,?_⟩,by simp[intOf];omega⟩;rw[G.out,J.out,D.out];exact block_setCell HI.out _
      · have I:Ym l (1+1) 1=l[1]:=by unfold Ym;rw[if_pos (by omega)];simp[Lg,Z]
        have U:Ym l (1+1) 0=Ym l 1 0:=by unfold Ym;rw[if_pos (by omega),if_pos (by omega)]
        have O:Ym l (1+1) 2=Ym l 1 2:=by unfold Ym;rw[if_neg (by omega),if_neg (by omega)]
        have G:=hid U;have J:=hid I;have D:=hid O;clear U I O;go_wp2
        refine⟨⟨1+1,rfl,by omega,q.trans ⟨rfl,rfl,rfl,by simp,fun g hg=>Below.heap_setCell _ _ _ _ (by show g≠w.heap.size+1;omega)⟩,by simp;omega,⟨c,T,(Below.heap_setCell _ _ _ _ (by show w.heap.size≠w.heap.size+1;omega)).trans HR.out,V⟩,?_⟩,by simp[intOf];omega⟩;rw[G.out,J.out,D.out];exact block_setCell HI.out _
      · have O:Ym l (2+1) 2=l[2]:=by unfold Ym;rw[if_pos (by omega)];simp[Lg,Z]
        have U:Ym l (2+1) 0=Ym l 2 0:=by unfold Ym;rw[if_pos (by omega),if_pos (by omega)]
        have I:Ym l (2+1) 1=Ym l 2 1:=by unfold Ym;rw[if_pos (by omega),if_pos (by omega)]
        have G:=hid U;have J:=hid I;have D:=hid O;clear U I O;go_wp2
        refine⟨⟨2+1,rfl,by omega,q.trans ⟨rfl,rfl,rfl,by simp,fun g hg=>Below.heap_setCell _ _ _ _ (by show g≠w.heap.size+1;omega)⟩,by simp;omega,⟨c,T,(Below.heap_setCell _ _ _ _ (by show w.heap.size≠w.heap.size+1;omega)).trans HR.out,V⟩,?_⟩,by simp[intOf];omega⟩;rw[G.out,J.out,D.out];exact block_setCell HI.out _
    · obtain rfl:k=l.length:=by omega
      obtain⟨c0,c1,c2,c3,ac⟩: ∃c0 c1 c2 c3,c= #[c0,c1,c2,c3]:=by
        obtain⟨L⟩:=c;match L,V with
        | [c0,c1,c2,c3],_=>exact⟨_,_,_,_,rfl⟩
      subst ac;go_wp2
      refine Bp (qdj rfl rfl (block_setCell (block_setCell (block_setCell (block_setCell HR.out _) _) _) _) rfl) rfl ⟨by rw[FE.out,FE.out,FE.out],q.trans ⟨rfl,rfl,rfl,by simp,fun g hg=>?_⟩⟩;have Y:g≠w.heap.size:=by omega
      exact(Below.heap_setCell _ _ _ _ Y).trans ((Below.heap_setCell _ _ _ _ Y).trans ((Below.heap_setCell _ _ _ _ Y).trans (Below.heap_setCell _ _ _ _ Y)))
end Go.Proofs.YthjoojnlnlmljaaGreat
