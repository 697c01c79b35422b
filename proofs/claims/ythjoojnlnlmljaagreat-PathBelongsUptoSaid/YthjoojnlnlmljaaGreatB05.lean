/- The program's rows as an iterator: each of a tree and a length. No condition. -/
import Derived.Test.YthjoojnlnlmljaaGreatB04
import Derived.RangeFuncNested
import Derived.RangeFuncBound
import Derived.RangeFuncCalls
import Derived.RangeFuncLeaves
import Derived.RangeFuncBox
import Derived.Shelf.Abstract
import Derived.Shelf.RegionOpen
import Derived.OwnWalkIn
import Derived.TacticsInMore
import Derived.LoopNIn
import Derived.LoopIn
import Derived.Lib.MinMax
set_option linter.all false
set_option maxRecDepth 100000
set_option maxHeartbeats 8000000
namespace Go.Proofs.YthjoojnlnlmljaaGreat
open Go.ChangeShapes Go.WideShapes Go.ChangeAt Go.RowKit Go.Joins Go.Shelf
open Go.Lib (hid)
attribute [local go_sem] Oper.semAt_some
theorem qdx {F:Fence}(o:F.depth=none)(k:Nat):F.room k:=fun d h=>by rw[o]at h;cases h
theorem RoundIn.anyDepth {F:Fence}(r:F.depth=none){m m':Nat}{P:Program}{l:Nat}{f:FuncId}{tmps:Array Value}{o q:Code}{w:World}{R:Ending→World→Prop}
    (h:RoundIn F m P l f tmps o q w R):RoundIn F m' P l f tmps o q w R:=⟨h.1,fun c cs _=>h.2 c cs (qdx r _)⟩
theorem YieldAt.anyDepth {F:Fence}(D:F.depth=none){m:Nat}(m':Nat){P:Program}{l:Nat}{args:Array Value}{W:World}{R:Ending→World→Prop}(h:YieldAt F m P l args W R):YieldAt F m' P l args W R:=by
  obtain⟨fn,tmps,o,q,r,G⟩:=h;exact⟨fn,tmps,o,q,r,RoundIn.anyDepth D G⟩
def KpT (W W':World):Prop:= ∀(b:Nat) (c:Array Value) (fr:Nat×Nat) (T:TypeId),(T=237∨T=26)→W.heap[b]? =some (Obj.cells c T fr)→W'.heap[b]? =some (Obj.cells c T fr)
theorem KpT.trans {A B C:World}(h:KpT A B)(k:KpT B C):KpT A C:=fun b c fr T o q=>k b c fr T o (h b c fr T o q)
theorem qd {W:World}{b:Nat}{c:Array Value}{T:TypeId}{fr:Nat×Nat}(h:W.heap[b]? =some (.cells c T fr))(i:Nat):W.cell? ⟨b,i,none⟩=c[i]? :=by simp[World.cell?,h]
theorem JO (n m:Nat)(l Y r k:Nat)(I:Bool)(W:World)(R:Ending→World→Prop)
    (J:W.heap[Y]? =some (.cells #[.func (.yield l) #[] #[]] 237 (0,0)))
    (o:YieldAt Fence.wide m Tryz.prog l #[.int .i64 r,.int .u64 k] W R) (D: ∀e W',R e W'→e= .returned (.bool true)∨e= .returned (.bool false)):
    CallsIn Fence.wide n Tryz.prog 148 #[.int .i64 r,.int .u64 k,.bool I,.pointer (some ⟨Y,0,none⟩)] W R:=by
  have O:=qd J 0;obtain⟨fn,tmps,q,G,S,o⟩:=YieldAt.anyDepth (m':=n - 1) rfl o;refine callsIn_of_wp Tryz.func148 rfl trivial ?_ rfl;simp only[Tryz.ntmps148,List.size_toArray,List.length_cons,List.length_nil,Nat.reduceAdd,Nat.reduceSub,Array.replicate_succ,Array.replicate_zero,List.push_toArray,List.append_toArray,List.nil_append,List.cons_append];gi_wp2
  refine⟨(fun h=>by cases h),?_⟩;refine o.mono ?_;intro e W' h;rcases D e W' h with rfl|rfl
  · gi_wp2
    exact h
  · gi_wp2
    exact h
theorem qd3 (r n d:Nat)(D:(n:Int)≤18446744073709551615)(q:1≤d)(o:(d:Int)≤18446744073709551615)(w:World):
    CallsIn Fence.wide r Tryz.prog 145 #[.int .u64 n,.int .u64 d] w fun e w'=>e= .returned (.int .u64 (qP n d))∧w=w':=callsIn_wide.2 (qfc n d D q o w)
def qjM (f p N:Nat)(Bt Y l:Nat)(tc:Array Value)(J:List (Nat×Nat)→World→Prop)(n r:Value)(wr:World):Prop:=
  ∃(k m fuel:Nat) (pre:List (Nat×Nat)),n= .int .u64 m∧r= .int .i64 k∧1≤k∧k+1≤p∧p≤fuel+k∧(m:Int)≤18446744073709551615∧
    qK 0 (QR f p N)=pre++qK k (Qf f p fuel k m)∧J pre wr∧wr.heap[Bt]? =some (Obj.cells tc 26 (0,0))∧
    wr.heap[Y]? =some (Obj.cells #[.func (.yield l) #[] #[]] 237 (0,0))
theorem qic (n0 m0:Nat)(t:TreeV)(hl:0≤t.l∧t.l≤4294967295)(total:Nat)(ht:(total:Int)≤18446744073709551615)(hv:t.validE=0)(l Bt Bn Y:Nat)
    (J Jx:List (Nat×Nat)→World→Prop) (W:World)
    (hY: ∀q x W,J q W→q++[x]<+:qK 0 (QR t.fn t.pn (lvs total t.ln))→YieldAt Fence.wide m0 Tryz.prog l #[.int .i64 (x.1:Nat),.int .u64 (x.2:Nat)] W fun e W'=>
      (e= .returned (.bool true)∧J (q++[x]) W'∧KpT W W')∨(e= .returned (.bool false)∧Jx (q++[x]) W'))
    (O:W.heap[Bt]? =some (Obj.cells t.val.cells 26 (0,0))) (h2:W.heap[Bn]? =some (Obj.cells #[.int .u64 total] 44 (0,0)))
    (h3:W.heap[Y]? =some (Obj.cells #[.func (.yield l) #[] #[]] 237 (0,0))) (h0:J [] W):
    CallsIn Fence.wide n0 Tryz.prog 171 #[.func (.func 148) #[] #[.pointer (some ⟨Y,0,none⟩)],.pointer (some ⟨Bn,0,none⟩),.pointer (some ⟨Bt,0,none⟩)] W fun e W'=>(∃v,e= .returned v)∧
      ((∃ys,ys=qK 0 (QR t.fn t.pn (lvs total t.ln))∧J ys W')∨(∃q,q<+:qK 0 (QR t.fn t.pn (lvs total t.ln))∧Jx q W')):=by
  have ap:=qn hv;obtain⟨-, -, -, -, -,hf,aE,aA,ao, -, -, -⟩:=ap;have al:1≤t.ln:=by unfold TreeV.ln;omega
  have aq:(t.ln:Int)≤18446744073709551615:=by unfold TreeV.ln;omega
  have ax:=qf7 total t.ln al ht;have ai:t.p=(t.pn:Int):=by unfold TreeV.pn;omega
  have af:t.f=(t.fn:Int):=by unfold TreeV.fn;omega
  have aj:t.l=(t.ln:Int):=by unfold TreeV.ln;omega
  have aC:2≤t.pn:=by omega
  have aG:t.pn≤255:=by omega
  have aB:t.fn≤255:=by omega
  have aw:Hid ((lvs total t.ln:Int)=max 1 (qP total t.ln:Int)):=by show _=_;unfold lvs;omega
  have c2:W.cell? ⟨Bt,2,none⟩=some (.int .i64 t.fn):=by rw[qd O,←af];rfl
  have c3:W.cell? ⟨Bt,3,none⟩=some (.int .i64 t.pn):=by rw[qd O,←ai];rfl
  have c4:W.cell? ⟨Bt,4,none⟩=some (.int .u32 t.ln):=by rw[qd O,←aj];rfl
  have c0:=qd h2 0;have HF:=hid af;have HP:=hid ai;have HV:=hid hv;clear ai af aj hv hf ao;refine callsIn_of_wp Tryz.func171 rfl trivial ?_ rfl;simp only[Tryz.ntmps171,List.size_toArray,List.length_cons,List.length_nil,Nat.reduceAdd,Nat.reduceSub,Array.replicate_succ,Array.replicate_zero,List.push_toArray,List.append_toArray,List.nil_append,List.cons_append];have ar:=hY [] (0,lvs total t.ln) W h0 (by simp[QR,qK]);have H1:=hid O;have H2:=hid h2;have H3:=hid h3;clear O h2 h3;gi_wp2_with fail
  refine⟨trivial,(fun h=>by cases h),?_⟩;refine(qd3 _ total t.ln ht al aq _).mono ?_;rintro e w2 ⟨rfl,rfl⟩;gi_wp2_with fail
  rw[←aw.out];refine⟨trivial,(fun h=>by cases h),?_⟩;refine(JO _ m0 l Y 0 (lvs total t.ln) false _ _ H3.out ar (fun e W' h=>h.elim (fun h=> .inl h.1) (fun h=> .inr h.1))).mono ?_;rintro e W1 (⟨rfl,av,ah⟩|⟨rfl,an⟩)
  · gi_wp2
    gi_loopw [4,5] (fun n r wr=>qjM t.fn t.pn (lvs total t.ln) Bt Y l t.val.cells J n r wr) (fun _ r _=>t.pn - (intOf r).toNat)
    case atStart=>
      exact⟨1,lvs total t.ln,t.pn,[(0,lvs total t.ln)],rfl,rfl,Nat.le_refl _,by omega,by omega,ax,rfl,av,ah _ _ _ _ (.inr rfl) H1.out,ah _ _ _ _ (.inl rfl) H3.out⟩
    case round=>
      obtain⟨k,m,fuel,q,rfl,rfl,ah,aF,aD,hm,ak,ad,ag,aa⟩:=hrel;have c2:wr.cell? ⟨Bt,2,none⟩=some (.int .i64 t.fn):=by rw[qd ag,←HF.out];rfl
      have c3:wr.cell? ⟨Bt,3,none⟩=some (.int .i64 t.pn):=by rw[qd ag,←HP.out];rfl
      have ab:=hid ak;have ac:1≤fuel:=by omega
      clear ak;by_cases V:t.fn=0
      · have HS:=hid (za (m:=m) ac (.inl V:t.fn=0∨k=t.pn - 1))
        have o:qK 0 (QR t.fn t.pn (lvs total t.ln))=q++[(k,1)]:=by rw[ab.out,HS.out];rfl
        have D:q++[(k,1)]<+:qK 0 (QR t.fn t.pn (lvs total t.ln)):=by rw[o];simp
        have S:=hY q (k,1) wr ad D;have I:=hid o;clear o;have e1:((t.fn:Int)==0)=true:=by rw[beq_iff_eq];omega
        clear V;gi_wp2_with fail
        refine⟨trivial,(fun h=>by cases h),?_⟩;refine(JO _ m0 l Y k 1 true _ _ aa S (fun e W' h=>h.elim (fun h=> .inl h.1) (fun h=> .inr h.1))).mono ?_;have o:=I.out;rintro e W3 (⟨rfl,U,X⟩|⟨rfl,G⟩)
        · gi_wp2
          refine Bp (results_none rfl _ _ _) rfl ?_;refine⟨⟨_,rfl⟩,.inl ⟨_,rfl,?_⟩⟩;rw[o];exact U
        · gi_wp2
          refine Bp (results_none rfl _ _ _) rfl ?_;exact⟨⟨_,rfl⟩,.inr ⟨q++[(k,1)],by rw[o];simp,G⟩⟩
      have e1:((t.fn:Int)==0)=false:=by rw[beq_eq_false_iff_ne];omega
      by_cases Z:k=t.pn - 1
      · have HS:=hid (za (m:=m) ac (.inr Z:t.fn=0∨k=t.pn - 1))
        have o:qK 0 (QR t.fn t.pn (lvs total t.ln))=q++[(k,1)]:=by rw[ab.out,HS.out];rfl
        have D:q++[(k,1)]<+:qK 0 (QR t.fn t.pn (lvs total t.ln)):=by rw[o];simp
        have S:=hY q (k,1) wr ad D;have I:=hid o;clear o;have e2:((k:Int)==(t.pn:Int) - 1)=true:=by rw[beq_iff_eq];omega
        clear V Z;gi_wp2_with fail
        refine⟨trivial,(fun h=>by cases h),?_⟩;refine(JO _ m0 l Y k 1 true _ _ aa S (fun e W' h=>h.elim (fun h=> .inl h.1) (fun h=> .inr h.1))).mono ?_;have o:=I.out;rintro e W3 (⟨rfl,U,X⟩|⟨rfl,G⟩)
        · gi_wp2
          refine Bp (results_none rfl _ _ _) rfl ?_;refine⟨⟨_,rfl⟩,.inl ⟨_,rfl,?_⟩⟩;rw[o];exact U
        · gi_wp2
          refine Bp (results_none rfl _ _ _) rfl ?_;exact⟨⟨_,rfl⟩,.inr ⟨q++[(k,1)],by rw[o];simp,G⟩⟩
      have e2:((k:Int)==(t.pn:Int) - 1)=false:=by rw[beq_eq_false_iff_ne];omega
      have ae: ¬(t.fn=0∨k=t.pn - 1):=fun h=>h.elim V Z
      have az:=Yq (n:=m) (show 1≤t.fn by omega);have am:1≤t.fn:=by omega
      have ay:k+2≤t.pn:=by omega
      by_cases O:qP m t.fn=1
      · have HS:=hid (JL ac ae O)
        have au:=hid O;have o:qK 0 (QR t.fn t.pn (lvs total t.ln))=q++[(k,(qP m t.fn))]:=by rw[ab.out,HS.out,au.out];rfl
        have D:q++[(k,(qP m t.fn))]<+:qK 0 (QR t.fn t.pn (lvs total t.ln)):=by rw[o];simp
        have S:=hY q (k,(qP m t.fn)) wr ad D;have I:=hid o;clear o;have e3:((qP m t.fn:Int)==1)=true:=by rw[beq_iff_eq];omega
        clear V Z ae O;gi_wp2_with (refine⟨trivial,(fun h=>by cases h),?_⟩;gi_at_call 145;refine(qd3 _ m t.fn hm am (by omega) _).mono ?_;rintro e w2 ⟨rfl,rfl⟩)
        refine⟨trivial,(fun h=>by cases h),?_⟩;refine(JO _ m0 l Y k (qP m t.fn) true _ _ aa S (fun e W' h=>h.elim (fun h=> .inl h.1) (fun h=> .inr h.1))).mono ?_;have o:=I.out;rintro e W3 (⟨rfl,U,X⟩|⟨rfl,G⟩)
        · gi_wp2
          refine Bp (results_none rfl _ _ _) rfl ?_;refine⟨⟨_,rfl⟩,.inl ⟨_,rfl,?_⟩⟩;rw[o];exact U
        · gi_wp2
          refine Bp (results_none rfl _ _ _) rfl ?_;exact⟨⟨_,rfl⟩,.inr ⟨q++[(k,(qP m t.fn))],by rw[o];simp,G⟩⟩
      · obtain⟨fu,rfl⟩: ∃fu,fuel=fu+1:=⟨fuel - 1,by omega⟩
        have HS:=hid (Jh (fuel:=fu) ae O);have o:qK 0 (QR t.fn t.pn (lvs total t.ln))=q++qK k (qP m t.fn::Qf t.fn t.pn fu (k+1) (qP m t.fn)):=by rw[ab.out,HS.out]
        have D:q++[(k,(qP m t.fn))]<+:qK 0 (QR t.fn t.pn (lvs total t.ln)):=by rw[o];simp[qK]
        have S:=hY q (k,(qP m t.fn)) wr ad D;have I:=hid o;clear o;have e3:((qP m t.fn:Int)==1)=false:=by rw[beq_eq_false_iff_ne];omega
        clear V Z ae O;gi_wp2_with (refine⟨trivial,(fun h=>by cases h),?_⟩;gi_at_call 145;refine(qd3 _ m t.fn hm am (by omega) _).mono ?_;rintro e w2 ⟨rfl,rfl⟩)
        refine⟨trivial,(fun h=>by cases h),?_⟩;refine(JO _ m0 l Y k (qP m t.fn) false _ _ aa S (fun e W' h=>h.elim (fun h=> .inl h.1) (fun h=> .inr h.1))).mono ?_;have o:=I.out;rintro e W3 (⟨rfl,U,X⟩|⟨rfl,G⟩)
        · gi_wp2
          go_roundw
          case rel=>
            refine⟨k+1,qP m t.fn,fu,q++[(k,qP m t.fn)],rfl,by simp,by omega,by omega,by omega,by omega,?_,U,X _ _ _ _ (.inr rfl) ag,X _ _ _ _ (.inl rfl) aa⟩;rw[ab.out,HS.out];simp[qK]
          case measure=>simp[intOf];omega
        · gi_wp2
          refine Bp (results_none rfl _ _ _) rfl ?_;exact⟨⟨_,rfl⟩,.inr ⟨q++[(k,(qP m t.fn))],by rw[o];simp[qK],G⟩⟩
  · gi_wp2
    refine Bp (results_none rfl _ _ _) rfl ?_;exact⟨⟨_,rfl⟩,.inr ⟨[(0,lvs total t.ln)],by simp[QR,qK],an⟩⟩
def TreeV.arr (t:TreeV):Array Value:=t.val.cells
def encP (x:Nat×Nat):Array Value:= #[.int .i64 (x.1:Nat),.int .u64 (x.2:Nat)]
theorem qiO (t:TreeV)(total:Nat)(w:World):Calls Tryz.prog 116 #[t.val,.int .u64 total] w fun e w'=>
    e= .returned (.func (.func 146) #[] #[.pointer (some ⟨w.heap.size,0,none⟩),.pointer (some ⟨w.heap.size+1,0,none⟩)])∧
    w'=(w.alloc (.cells t.arr 26)).alloc (.cells #[.int .u64 total] 44):=by
  unfold TreeV.val;go_enter Tryz.func116,Tryz.ntmps116
  go_wp2
  go_ret
  exact⟨rfl,rfl⟩
theorem qfG (t:TreeV)(total:Nat)(w:World):Calls Tryz.prog 147 #[t.val,.int .u64 total] w fun e w'=>
    e= .returned (.func (.func 171) #[] #[.pointer (some ⟨w.heap.size+1,0,none⟩),.pointer (some ⟨w.heap.size,0,none⟩)])∧
    w'=(w.alloc (.cells t.val.cells 26)).alloc (.cells #[.int .u64 total] 44):=by
  unfold TreeV.val;go_enter Tryz.func147,Tryz.ntmps147
  go_wp2
  go_ret
  exact⟨rfl,rfl⟩
theorem qjp (o:Nat)(t:TreeV)(total:Nat)(w:World):CallsIn Fence.wide o Tryz.prog 147 #[t.val,.int .u64 total] w fun e w'=>
    e= .returned (.func (.func 171) #[] #[.pointer (some ⟨w.heap.size+1,0,none⟩),.pointer (some ⟨w.heap.size,0,none⟩)])∧
    w'=(w.alloc (.cells t.val.cells 26)).alloc (.cells #[.int .u64 total] 44):=callsIn_wide.2 (qfG t total w)
theorem qiP (n0 m0:Nat)(t:TreeV)(hl:0≤t.l∧t.l≤4294967295)(total:Nat)(ht:(total:Int)≤18446744073709551615)(hv:t.validE=0)(l Bt Y:Nat)
    (J Jx:List (Nat×Nat)→World→Prop) (W:World) (hJ:AbidesFrom W.heap.size J)
    (hY: ∀o x W,J o W→o++[x]<+:qK 0 (QR t.fn t.pn (lvs total t.ln))→YieldAt Fence.wide m0 Tryz.prog l (encP x) W fun e W'=>
      (e= .returned (.bool true)∧J (o++[x]) W'∧KpT W W')∨(e= .returned (.bool false)∧Jx (o++[x]) W'))
    (q:W.heap[Bt]? =some (Obj.cells t.val.cells 26 (0,0))) (G:W.heap[Y]? =some (Obj.cells #[.int .u64 total] 44 (0,0))) (h0:J [] W):
    CallsIn Fence.wide n0 Tryz.prog 146 #[.func (.yield l) #[] #[],.pointer (some ⟨Bt,0,none⟩),.pointer (some ⟨Y,0,none⟩)] W fun e W'=>(∃v,e= .returned v)∧
      ((∃ys,ys=qK 0 (QR t.fn t.pn (lvs total t.ln))∧J ys W')∨(∃o,o<+:qK 0 (QR t.fn t.pn (lvs total t.ln))∧Jx o W')):=by
  have c0:=qd q 0;have c1:=qd q 1;have c2:=qd q 2;have c3:=qd q 3;have c4:=qd q 4;have c5:=qd q 5;have c6:=qd q 6;have c7:=qd q 7;have c8:=qd q 8;have cn:=qd G 0;simp only[TreeV.val,Value.cells,List.getElem?_toArray,List.getElem?_cons_zero,List.getElem?_cons_succ]at c0 c1 c2 c3 c4 c5 c6 c7 c8 cn;have b1:Bt<W.heap.size:=(Ai q).1;have b2:Y<W.heap.size:=(Ai G).1;have H1:=hid q;have H2:=hid G;clear q G;refine callsIn_of_wp Tryz.func146 rfl trivial ?_ rfl;simp only[Tryz.ntmps146,List.size_toArray,List.length_cons,List.length_nil,Nat.reduceAdd,Nat.reduceSub,Array.replicate_succ,Array.replicate_zero,List.push_toArray,List.append_toArray,List.nil_append,List.cons_append];gi_wp2_with fail
  refine⟨trivial,(fun h=>by cases h),?_⟩;refine(qjp _ t total _).mono ?_;rintro e w2 ⟨rfl,rfl⟩;simp only[World.size_alloc,TreeV.val,Value.cells];have S:((((W.alloc (Obj.cells #[.func (.yield l) #[] #[]] 237)).alloc (.cells t.val.cells 26)).alloc (.cells #[.int .u64 total] 44))).heap[W.heap.size+1]? =some (Obj.cells t.val.cells 26 (0,0)):=by
    rw[Bh _ _ _ (by simp)];have:=Wn (W.alloc (Obj.cells #[.func (.yield l) #[] #[]] 237)) (.cells t.val.cells 26)
    rwa[World.size_alloc]at this
  have U:((((W.alloc (Obj.cells #[.func (.yield l) #[] #[]] 237)).alloc (.cells t.val.cells 26)).alloc (.cells #[.int .u64 total] 44))).heap[W.heap.size+1+1]? =some (Obj.cells #[.int .u64 total] 44 (0,0)):=by
    have:=Wn ((W.alloc (Obj.cells #[.func (.yield l) #[] #[]] 237)).alloc (.cells t.val.cells 26)) (.cells #[.int .u64 total] 44)
    rwa[World.size_alloc,World.size_alloc]at this
  have I:((((W.alloc (Obj.cells #[.func (.yield l) #[] #[]] 237)).alloc (.cells t.val.cells 26)).alloc (.cells #[.int .u64 total] 44))).heap[W.heap.size]? =some (Obj.cells #[.func (.yield l) #[] #[]] 237 (0,0)):=by
    rw[Bh _ _ _ (by simp;omega),Bh _ _ _ (by simp)];exact Wn _ _
  have X:=hJ _ _ _ none h0 (World.grownBy_alloc W (Obj.cells #[.func (.yield l) #[] #[]] 237) none) (fun r e=>by cases e);have O:=hJ _ _ _ none X (World.grownBy_alloc _ (.cells t.val.cells 26) none) (fun r e=>by cases e);have V:=hJ _ _ _ none O (World.grownBy_alloc _ (.cells #[.int .u64 total] 44) none) (fun r e=>by cases e);have D:=qic (n0 - 1) m0 t hl total ht hv l _ _ _ J Jx _ (fun o x W1 hj Z=>hY o x W1 hj Z) S U I V;simp only[TreeV.val,Value.cells]at D;clear X O V S U I h0 hY;gi_wp2_with fail
  refine⟨trivial,(fun h=>by cases h),?_⟩;refine D.mono ?_;rintro e W4 ⟨⟨v,rfl⟩,hp⟩
  clear D;gi_wp2
  go_end0
  exact⟨⟨_,rfl⟩,hp⟩
abbrev yD (L:List Nat):= { k:Nat//k<L.length }
def qj6 (L:List Nat)(x:yD L):Array Value:= #[.int .i64 (x.1:Nat),.int .u64 (nth L x.1)]
theorem qcU (r:Nat)(L:List Nat)(k:Nat)(o:k<L.length):(qK r L)[k]? =some (r+k,nth L k):=by
  induction L generalizing r k with
  | nil=>simp at o
  | cons n l ih=>
    cases k with
    | zero=>simp[qK,nth]
    | succ k=>
      have:=ih (r+1) k (by simpa using o)
      simp only[qK,List.getElem?_cons_succ,this,zd];congr 2;omega
theorem qaX (L:List Nat):qK 0 L=(List.range L.length).map (fun k=>(k,nth L k)):=by
  apply List.ext_getElem?
  intro k;by_cases o:k<L.length
  · rw[qcU 0 L k o];simp[o]
  · rw[List.getElem?_eq_none (by rw[yG];omega),List.getElem?_eq_none (by simp;omega)]
theorem qfY {L:List Nat}{o:List (Nat×Nat)}{x:Nat×Nat}(h:o++[x]<+:qK 0 L):x.1<L.length∧x.2=nth L x.1:=by
  obtain⟨t,r⟩:=h;have q:(qK 0 L)[o.length]? =some x:=by rw[←r];simp
  have D:o.length<L.length:=by
    have:=congrArg List.length r
    rw[yG]at this;simp at this;omega
  rw[qcU 0 L _ D]at q;simp only[Option.some.injEq]at q;subst q;exact⟨by simpa using D,by simp⟩
def yP (L:List Nat)(ks:List (yD L)):List (Nat×Nat):=ks.map fun k=>(k.1,nth L k.1)
theorem qdu {L:List Nat}{o:List (yD L)}(h:yP L o=qK 0 L):o.map (·.1)=List.range L.length:=by
  have:=congrArg (List.map (·.1)) h
  rw[qaX]at this;simpa [yP,Function.comp_def] using this
theorem qct {L:List Nat}{o:List (yD L)}(h:yP L o<+:qK 0 L):o.map (·.1)=List.range o.length∧o.length≤L.length:=by
  have D:=h.length_le;rw[yG]at D;have r:o.length≤L.length:=by simpa [yP] using D
  refine⟨?_,r⟩;have G:=List.prefix_iff_eq_take.1 h;have:=congrArg (List.map (·.1)) G
  rw[qaX]at this;simp[yP,Function.comp_def,List.map_take]at this
  have q:o.map (·.1)=List.range (min o.length L.length):=this;rw[q,Nat.min_eq_left r]
theorem qgl (n0:Nat)(t:TreeV)(hl:0≤t.l∧t.l≤4294967295)(total:Nat)(ht:(total:Int)≤18446744073709551615)(hv:t.validE=0)(U S:Nat)(w:World)
    (h1:w.heap[U]? =some (Obj.cells t.val.cells 26 (0,0))) (h2:w.heap[S]? =some (Obj.cells #[.int .u64 total] 44 (0,0))) (L:List Nat) (hL:QR t.fn t.pn (lvs total t.ln)=L):
    SeqStopsK Fence.wide n0 Tryz.prog 146 #[.pointer (some ⟨U,0,none⟩),.pointer (some ⟨S,0,none⟩)] (qj6 L) KpT
      (fun ys=>ys.map (·.1)=List.range L.length) (fun q=>q.map (·.1)=List.range q.length∧q.length≤L.length) (L.length+1) w:=by
  intro l J Jx W hW hJ ac hY h0;subst hL;have aa:AbidesFrom W.heap.size (fun(D:List (Nat×Nat)) W=> ∃o:List (yD (QR t.fn t.pn (lvs total t.ln))),yP _ o=D∧J o W):=
    fun D A B row ⟨o,e,r⟩ hg hr=>⟨o,e,hJ o A B row r hg hr⟩
  refine(qiP n0 (n0 - 1) t hl total ht hv l U S (fun D W=> ∃o:List (yD (QR t.fn t.pn (lvs total t.ln))),yP _ o=D∧J o W)
    (fun D W=> ∃o:List (yD (QR t.fn t.pn (lvs total t.ln))),yP _ o=D∧Jx o W) W aa ?_
    ((hW.block U (Ai h1).1).trans h1) ((hW.block S (Ai h2).1).trans h2) ⟨[],rfl,h0⟩).mono ?_
  · rintro q x W1 ⟨o,rfl,r⟩ I
    obtain⟨X,V⟩:=qfY I;have Y:o.length<(QR t.fn t.pn (lvs total t.ln)).length+1:=by
      have:=I.length_le
      rw[yG]at this;simp[yP]at this;omega
    obtain⟨fn,tmps,G,Z,hy,hR⟩:=hY o ⟨x.1,X⟩ W1 r Y;refine⟨fn,tmps,G,Z,?_,hR.mono ?_⟩
    · rw[←hy];simp only[qj6,encP,V]
    · have ex:yP _ (o++[⟨x.1,X⟩])=yP _ o++[x]:=by simp[yP,←V]
      rintro e W' (⟨he,O,hk⟩|⟨he,O⟩)
      · exact .inl ⟨he,⟨_,ex,O⟩,hk⟩
      · exact .inr ⟨he,⟨_,ex,O⟩⟩
  · rintro e W' ⟨ab,h⟩
    refine⟨ab,?_⟩;rcases h with⟨ys,rfl,o,e,r⟩|⟨q,hp,o,rfl,r⟩
    · exact .inl ⟨o,qdu e,r⟩
    · exact .inr ⟨o,qct hp,r⟩
end Go.Proofs.YthjoojnlnlmljaaGreat
namespace Go.Proofs.YthjoojnlnlmljaaGreat
open Go.ChangeShapes Go.WideShapes Go.ChangeAt Go.RowKit Go.Joins Go.Shelf Go.Maps
open Go.Lib (hid)
attribute [local go_sem] Oper.semAt_some
theorem KpT.setCell {W:World}{p:Addr}{c:Array Value}{T:TypeId}{fr:Nat×Nat}(h:W.heap[p.block]? =some (Obj.cells c T fr))(q:T≠237)(r:T≠26)(u:Value):KpT W (W.setCell p u):=by
  intro b G fr' T' D o;by_cases e:b=p.block
  · subst e
    rw[h]at o
    cases o
    rcases D with rfl|rfl
    · exact absurd rfl q
    · exact absurd rfl r
  · exact(Below.heap_setCell W p u b e).trans o
theorem KpT.putObj (W:World)(l:Nat)(o r:Obj)(G:W.heap[l]? =some o)(D:o.isCells=false):KpT W (W.putObj l r):=by
  intro b c fr T _ q;refine((grownBy_putObj' W l r).block b (Ai q).1 (fun e=>?_)).trans q
  cases e
  rw[G]at q
  cases q
  cases D
end Go.Proofs.YthjoojnlnlmljaaGreat
namespace Go.Proofs.YthjoojnlnlmljaaGreat
open Go.ChangeShapes Go.WideShapes Go.ChangeAt Go.RowKit Go.Joins Go.Shelf Go.Maps
open Go.Lib (hid)
theorem wrap_u64 (x:Int):IntKind.u64.wrap x=x%18446744073709551616:=by simp[IntKind.wrap,IntKind.bits,IntKind.signed]
theorem Zt {w:World}{base:Nat}{e:TypeId}{L:List Nat}{n:Nat}{v:Value}(h:w.ownsRow base e 1 v n (L.map qcE))(D:0<n):
    ∃g o,v= .slice (some ⟨g,0,none⟩) n o∧L.length=n∧base≤g∧g<w.heap.size∧ ∀j,j<n→w.cell? ⟨g,j,none⟩=some (.int .u64 (nth L j)):=by
  obtain⟨g,o,rfl⟩:=ownsRow_form h D;have r:=h.1;simp at r
  have q:=h.lt g (by simp[Value.ownBlock]);refine⟨g,o,rfl,r,q.1,q.2,fun j G=>?_⟩;rw[h.cellAt j (by omega)];simp[qcE,nth,List.getElem?_eq_getElem (show j<L.length by omega)]
end Go.Proofs.YthjoojnlnlmljaaGreat
