/- Lemmas. No condition. -/
import Derived.Test.YtahenngmaoellaaGreatO06
import Derived.Test.YtahenngmaoellaaGreatO10
import Derived.Deep.AppendLies
import Derived.Deep.RegionHeld3
import Derived.Laws.AppendOwnNone
import Derived.Laws.CopyOwn
set_option linter.all false
set_option maxRecDepth 100000
set_option maxHeartbeats 0
namespace Go.Proofs.YtahenngmaoellaaGreat
open Go.ChangeShapes Go.WideShapes Go.ChangeAt Go.RowKit Go.Joins Go.Shelf Go.Maps
open Go.Lib (hid)
variable{w' W:World}{m B n k g j size b i at_:Nat}{v u:Value}{ds:List (List Int)}{P:Program}{ops:Array Oper}{o:Oper}{a:Act}{K:Act->World->Prop}{Q:Exit->Act->World->Prop}{E:Prop}{e:TypeId}{xs:List Value}{R A F T:Nat->Int}{la:Nat->Bool}{c:Array Value}{fr:Nat×Nat}{ss:List Qd}{q:List TypeId}{zs:List Int}
attribute [local go_sem] Oper.semAt_some
def pSrcIs (w:World)(x:Value)(m:Nat)(news:List Value):Prop:=
  news.length=m/\(∀u∈news,u.oneCell'=true)/\((x= .slice none 0 0/\m=0)\/ ∃ad c,x= .slice (some ad) m c/\ ∀j u,news[j]? =some u->w.cell? (ad.add j)=some u)
theorem pSrcIs.below {w:World}{x:Value}{o:List Value}(h:pSrcIs w x m o)(r:Below w.heap.size w w'):pSrcIs w' x m o:=by
  refine⟨h.1,h.2.1,?_⟩;rcases h.2.2 with q|⟨G,c,e,q⟩
  · exact .inl q
  · refine .inr ⟨G,c,e,fun j u D=>?_⟩
    have:=q j u D
    rw[r.cell (World.block_lt_of_cell? w _ this)];exact this
theorem pRowsAt.src {w:World}(h:pRowsAt w v ds): ∃o,pSrcIs w v ds.length o/\ ∀j,j<ds.length-> ∃a c,o[j]? =some (.slice a (Qs ds j).length c):=by
  obtain⟨a,r,V,rfl,O,h⟩:=h;rcases h with rfl|⟨b,off,rfl,S,h⟩
  · refine⟨[],⟨rfl,by simp,?_⟩,by simp⟩
    cases a with
    | none=>rw[O rfl];exact .inl ⟨rfl,rfl⟩
    | some ad=>exact .inr ⟨ad,r,rfl,by simp⟩
  · refine⟨(List.range ds.length).map V,⟨by simp,?_,.inr ⟨⟨b,off,none⟩,r,rfl,?_⟩⟩,?_⟩
    · intro u J
      obtain⟨i,hi,rfl⟩:=List.mem_map.1 J;obtain⟨-,I,G,e, -⟩:=h i (List.mem_range.1 hi);rw[e];rfl
    · intro j u q
      obtain⟨D,rfl⟩:=List.getElem?_eq_some_iff.1 q;simp at D
      rw[Go.WideShapes.add_plain];simpa using(h j D).1
    · intro j q
      obtain⟨-,I,G,e, -⟩:=h j q;exact⟨I,G,by rw[<-e];simp[q]⟩
theorem jb {w:World}(hB:B=W.heap.size)(J:Below B W w)(t S e:TypeId)(i:TypeInfo)(z:Value)(bytes:Nat)(Y:P.underlying t=some (.slice e))(hi:P.info? e=some i)(hz:i.zero=some z)
    (I:i.size=1) (Z:i.bytes=bytes) (X:z.cells.size=1) (v:Value) (n:Nat) (xs:List Value) (o:w.ownsRow B e 1 v n xs)
    (x:Value) (m:Nat) (q:List Value) (U:pSrcIs w x m q) (V:n+m<=maxLen) (r:(n+m)*bytes<=140737488355328):
    ∃v' w',(Builtin.append_ #[t,t] S #[v,x]).run P w= .ok v' w'/\w'.ownsRow B e 1 v' (n+m) (xs++q)/\Below B W w':=by
  subst hB;obtain⟨h1,h2,O⟩:=U;rcases O with⟨rfl,rfl⟩|⟨ad,c,rfl,O⟩
  · obtain rfl:q=[]:=List.eq_nil_of_length_eq_zero h1
    exact⟨v,w,run_append_owned_none w W.heap.size t S e i 1 Y hi v n xs o,by simpa using o,J⟩
  · obtain⟨v',w',hr,G,D, -⟩:=run_append_own (P:=P) w W.heap.size t S e i z 1 bytes Y hi hz I Z X (by omega) v n xs o ad m c q (by omega) O h2 V r J.size
    exact⟨v',w',hr,G,J.grown D J.size (fun k e=>(o.lt k e).1)⟩
theorem qaB {w:World}(J:o.guard=none)(s x:Operand)(t:TypeId)
    (Z:o.op= .call { callee:= .builtin .append,args:= #[s,x],argTypes:= #[t,t] }) (W:World) (B:Nat) (V:B=W.heap.size) (hb:Below B W w)
    (e:TypeId) (i:TypeInfo) (z:Value) (bytes:Nat) (ht:P.underlying t=some (.slice e)) (hi:P.info? e=some i) (hz:i.zero=some z)
    (D:i.size=1) (U:i.bytes=bytes) (S:z.cells.size=1) (v:Value) (n:Nat) (xs:List Value) (hs:a.eval s=v) (G:w.ownsRow B e 1 v n xs)
    (u:Value) (m:Nat) (q:List Value) (hx:a.eval x=u) (I:pSrcIs w u m q) (O:n+m<=maxLen) (r:(n+m)*bytes<=140737488355328)
    (h: ∀v' w',w'.ownsRow B e 1 v' (n+m) (xs++q)->Below B W w'->K (a.put o.dst v') w'):
    if Region.wanted o (yielded ops a.tmps)=true then Oper.wp P o a w K Q else E:=by
  have hw:Region.wanted o (yielded ops a.tmps)=true:=by simp[Region.wanted,J]
  rw[if_pos hw];obtain⟨v',w',X,h2,Y⟩:=jb (P:=P) V hb t o.type e i z bytes ht hi hz D U S v n xs G u m q I O r;unfold Oper.wp execOp;simp only[Z,resolve,invoke,builtin,Sem.run_bind,Sem.run_pure,Result.andThen_ok,List.map_toArray,List.map_cons,List.map_nil,hs,hx,X];exact h v' w' h2 Y
theorem qe2 {w:World}(h:w.ownsRow B e 1 v n xs)(q: ∀u∈xs,u.oneCell'=true):pSrcIs w v n xs:=by
  refine⟨by have:=h.1;omega,q,?_⟩;rcases h.2 with⟨rfl,rfl⟩|⟨g,o,r,rfl, -⟩
  · exact .inl ⟨rfl,rfl⟩
  · exact .inr ⟨⟨g,0,none⟩,o,rfl,h.cells (g:=g) rfl⟩
theorem qbT {w:World}(V:B=W.heap.size)(S:Below B W w)(t I e:TypeId)(i:TypeInfo)(z:Value)(bytes:Nat)(Y:P.underlying t=some (.slice e))(hi:P.info? e=some i)(X:i.zero=some z)
    (r:i.size=1) (U:i.bytes=bytes) (O:z.cells.size=1) (v:Value) (n:Nat) (xs:List Value) (D:w.ownsRow B e 1 v n xs)
    (x:Value) (m:Nat) (o:List Value) (G:pSrcIs W x m o) (J:n+m<=maxLen) (q:(n+m)*bytes<=140737488355328):
    ∃v' w',(Builtin.append_ #[t,t] I #[v,x]).run P w= .ok v' w'/\w'.ownsRow B e 1 v' (n+m) (xs++o)/\Below B W w':=by
  subst V;exact jb rfl S t I e i z bytes Y hi X r U O v n xs D x m o (G.below S) J q
theorem qcF {w:World}(s x:Operand)(t:TypeId)
    (Y:o.op= .call { callee:= .builtin .append,args:= #[s,x],argTypes:= #[t,t] }) (W:World) (B:Nat) (U:B=W.heap.size) (hb:Below B W w)
    (e:TypeId) (i:TypeInfo) (z:Value) (bytes:Nat) (ht:P.underlying t=some (.slice e)) (hi:P.info? e=some i) (Z:i.zero=some z)
    (D:i.size=1) (S:i.bytes=bytes) (O:z.cells.size=1) (v:Value) (n:Nat) (xs:List Value) (hs:a.eval s=v) (G:w.ownsRow B e 1 v n xs)
    (u:Value) (m:Nat) (q:List Value) (hx:a.eval x=u) (I:pSrcIs W u m q) (J:n+m<=maxLen) (r:(n+m)*bytes<=140737488355328)
    (h: ∀v' w',w'.ownsRow B e 1 v' (n+m) (xs++q)->Below B W w'->K (a.put o.dst v') w'):o.wp P a w K Q:=by
  obtain⟨v',w',V,h2,X⟩:=qbT (P:=P) U hb t o.type e i z bytes ht hi Z D S O v n xs G u m q I J r;unfold Oper.wp execOp;simp only[Y,resolve,invoke,builtin,Sem.run_bind,Sem.run_pure,Result.andThen_ok,List.map_toArray,List.map_cons,List.map_nil,hs,hx,V];exact h v' w' h2 X
theorem Z9 {w:World}(J:o.guard=none)(s x:Operand)(t:TypeId)
    (X:o.op= .call { callee:= .builtin .append,args:= #[s,x],argTypes:= #[t,t] }) (W:World) (B:Nat) (V:B=W.heap.size) (hb:Below B W w)
    (e:TypeId) (i:TypeInfo) (z:Value) (bytes:Nat) (ht:P.underlying t=some (.slice e)) (hi:P.info? e=some i) (Y:i.zero=some z)
    (D:i.size=1) (U:i.bytes=bytes) (S:z.cells.size=1) (v:Value) (n:Nat) (xs:List Value) (hs:a.eval s=v) (G:w.ownsRow B e 1 v n xs)
    (u:Value) (m:Nat) (q:List Value) (hx:a.eval x=u) (I:pSrcIs W u m q) (O:n+m<=maxLen) (r:(n+m)*bytes<=140737488355328)
    (h: ∀v' w',w'.ownsRow B e 1 v' (n+m) (xs++q)->Below B W w'->K (a.put o.dst v') w'):
    if Region.wanted o (yielded ops a.tmps)=true then Oper.wp P o a w K Q else E:=by
  have Z:Region.wanted o (yielded ops a.tmps)=true:=by simp[Region.wanted,J]
  rw[if_pos Z];exact qcF s x t X W B V hb e i z bytes ht hi Y D U S v n xs hs G u m q hx I O r h
theorem qj5 {b a:List (List Int)}{o q:List Value}(r:o.length=b.length)(D: ∀j,j<b.length-> ∃x c,o[j]? =some (.slice x (Qs b j).length c))(G: ∀j,j<a.length-> ∃x c,q[j]? =some (.slice x (Qs a j).length c)):
    ∀k,k<b.length+a.length-> ∃x c,(o++q)[k]? =some (.slice x (Qs (b++a) k).length c):=by
  intro k I;by_cases h:k<b.length
  · obtain⟨x,c,e⟩:=D k h
    refine⟨x,c,?_⟩;rw[List.getElem?_append_left (by omega),e];unfold Qs;rw[Lg,Lg,List.getElem?_append_left h]
  · obtain⟨x,c,e⟩:=G (k - b.length) (by omega)
    refine⟨x,c,?_⟩;rw[List.getElem?_append_right (by omega),r,e];unfold Qs;rw[Lg,Lg,List.getElem?_append_right (by omega)]
theorem qcv {i:Int}(h: ∀k,k<ds.length->((Qs ds k).length:Int)=i): ∀d∈ds,(d.length:Int)=i:=by
  intro d q;obtain⟨k,o,rfl⟩:=List.mem_iff_getElem.1 q;have:=h k o
  unfold Qs at this;rwa[Lg,List.getElem?_eq_getElem o]at this
theorem yb (h:k<ds.length):Qs ds k∈ds:=by
  unfold Qs;rw[Lg,List.getElem?_eq_getElem h];exact List.getElem_mem h
def Zh (inner:Int)(ch af:Nat->Int)(ss:List Qd)(j:Nat):Prop:=((qy ss j).1.length:Int)=ch j/\((qy ss j).2.length:Int)=af j/\ ∀d∈(qy ss j).1++(qy ss j).2,(d.length:Int)=inner
def zd (inner:Int)(m:Nat)(ch af:Nat->Int)(ss:List Qd):Prop:=ss.length=m/\ ∀j,j<m->Zh inner ch af ss j
def StageAt (w:World)(g:Nat)(R A F T ch:Nat->Int)(la ro:Nat->Bool)(j:Nat):Prop:=
  w.cell? ⟨g,j*7,none⟩=some (.int .i64 (R j))/\w.cell? ⟨g,j*7+1,none⟩=some (.int .u64 (A j))/\w.cell? ⟨g,j*7+2,none⟩=some (.int .u64 (F j))/\w.cell? ⟨g,j*7+3,none⟩=some (.int .u64 (T j))/\
    w.cell? ⟨g,j*7+4,none⟩=some (.bool (la j))/\w.cell? ⟨g,j*7+5,none⟩=some (.bool (ro j))/\w.cell? ⟨g,j*7+6,none⟩=some (.int .u64 (ch j))
theorem StageAt.below {w:World}{r:Nat->Int}{D:Nat->Bool}(h:StageAt w g R A F T r la D j)(o:g<w.heap.size)(q:Below w.heap.size w w'):StageAt w' g R A F T r la D j:=by
  obtain⟨S,U,I,G,V,O,J⟩:=h;exact⟨(q.cell (p:=⟨g,_,none⟩) o).trans S,(q.cell (p:=⟨g,_,none⟩) o).trans U,(q.cell (p:=⟨g,_,none⟩) o).trans I,(q.cell (p:=⟨g,_,none⟩) o).trans G,(q.cell (p:=⟨g,_,none⟩) o).trans V,(q.cell (p:=⟨g,_,none⟩) o).trans O,(q.cell (p:=⟨g,_,none⟩) o).trans J⟩
def Boxes (w:World)(ti:Int)(u:Value)(wr:World):Prop:=Below w.heap.size w wr/\w.heap.size+2<=wr.heap.size/\wr.cell? ⟨w.heap.size,5,none⟩=some (.int .i64 ti)/\wr.cell? ⟨w.heap.size+1,2,none⟩=some u
theorem Boxes.below {w wr:World}{q:Int}(h:Boxes w q u wr)(o:Below wr.heap.size wr w'):Boxes w q u w':=by
  obtain⟨r,I,D,G⟩:=h;have:=o.size
  exact⟨r.trans (o.mono (by omega)),by omega,(o.cell (p:=⟨w.heap.size,5,none⟩) (by show w.heap.size<wr.heap.size;omega)).trans D,(o.cell (p:=⟨w.heap.size+1,2,none⟩) (by show w.heap.size+1<wr.heap.size;omega)).trans G⟩
theorem qbh (w:World){o r:Array Value}{q G:TypeId}{D:Int}(I:o[5]? =some (.int .i64 D))(J:r[2]? =some u):Boxes w D u ((w.alloc (.cells o q)).alloc (.cells r G)):=by
  refine⟨(Br.alloc Nl _).alloc (by simp) _,by simp,?_,?_⟩
  · rw[qd ((Bh (w.alloc (.cells o q)) _ w.heap.size (by simp)).trans (Wn w _)) 5];exact I
  · have e:(w.alloc (.cells o q)).heap.size=w.heap.size+1:=by simp
    rw[<-e,qd (Wn (w.alloc (.cells o q)) _) 2];exact J
theorem qba:(Tryz.prog.info? 24).map (fun i=>(i.zero,i.size,i.bytes))=some (some (.slice none 0 0),1,24):=by kernel_rfl
theorem J8 {c:Code}{w:World}(h: ∀W,W=w->Code.wp P c Q a W):Code.wp P c Q a w:=h w rfl
theorem qi7 (t:TreeV)(total leaf:Nat)(u:Value)(ss:List Qd)(w:World)(r:StepsAt w u ss)(q:QX 1048576 ss)(m:Nat)(D:Option Addr)(o:Nat)(I:m<=255)(G:ss.length≠m):
    Calls Tryz.prog 93 #[t.val,.agg #[.int .u64 total,.int .u64 leaf,u],.slice D m o] w fun e w'=>e= .returned (.bool false)/\Below w.heap.size w w':=by
  obtain⟨a,c,U,V,rfl, -, -⟩:=r;have O:=q.1;have J:((ss.length:Int)==(m:Int))=false:=by rw[beq_eq_false_iff_ne];omega
  have X:(ss.length==m)=false:=by rw[beq_eq_false_iff_ne];omega
  have S:((ss.length:Int) != (m:Int))=true:=by rw[bne_iff_ne];omega
  have Y:(ss.length != m)=true:=by rw[bne_iff_ne];omega
  unfold TreeV.val;go_enter Tryz.func93,Tryz.ntmps93
  go_wp2
  go_ret
  exact⟨rfl,(Br.alloc Nl _).alloc (by simp) _⟩
theorem qh0 (t:TreeV)(total leaf:Nat)(u:Value)(ss:List Qd)(w:World)(hs:StepsAt w u ss)(ho:QX 1048576 ss)(g aw:Nat)(hg:g<w.heap.size)(hm:ss.length<=255)(ah:1<=ss.length)
    (R A F T r af:Nat->Int) (la ro:Nat->Bool) (HC:Hid (∀j,j<ss.length->StageAt w g R A F T r la ro j))
    (HF:Hid (∀j,j<ss.length->0<=F j/\F j<=T j/\T j<=18446744073709551615/\0<=r j/\0<=af j/\af j=T j - F j - r j - 1)):
    Calls Tryz.prog 93 #[t.val,.agg #[.int .u64 total,.int .u64 leaf,u],.slice (some ⟨g,0,none⟩) ss.length aw] w fun e w'=> ∃b:Bool,e= .returned (.bool b)/\(b=true↔ ∀j,j<ss.length->Zh t.i r af ss j)/\Below w.heap.size w w':=by
  obtain⟨i0,hi,al,ak,ai⟩:=info_parts qba;obtain⟨a,c,U,V,rfl, -,h⟩:=hs;obtain⟨b,off,rfl,ae,h'⟩:=h.resolve_left (fun e=>by rw[e]at ah;simp at ah);have HU:=hid h';clear h h';have HO:=hid ho.2;unfold TreeV.val;go_enter Tryz.func93,Tryz.ntmps93
  go_wp2_with fail
  go_loopw [21] (fun i wr=> ∃j:Nat,i= .int .i64 j/\j<=ss.length/\Boxes w t.i (.slice (some ⟨b,off,none⟩) ss.length c) wr/\Hid (∀j',j'<j->Zh t.i r af ss j')) (fun i _=>ss.length - (intOf i).toNat)
  case atStart=>exact⟨0,rfl,by omega,qbh w rfl rfl,hid (fun j' h=>absurd h (Nat.not_lt_zero _))⟩
  case round=>
    obtain⟨j,rfl,hj,hx,HS⟩:=hrel;obtain⟨O,aF,aI,aK⟩:=id hx;have aG:g<wr.heap.size:=by omega
    have aA:b<wr.heap.size:=by omega
    have aE:w.heap.size<wr.heap.size:=by omega
    have az:w.heap.size+1<wr.heap.size:=by omega
    by_cases G:j<ss.length
    · obtain⟨c0,c1,c2,c3,c4,c5,c6⟩:=(HC.out j G).below hg O
      obtain⟨cu,cv,ru,rv⟩:=HU.out j G;have am:qy ss j∈ss:=by unfold qy;rw[Lg,List.getElem?_eq_getElem G];exact List.getElem_mem G
      obtain⟨⟨lu, -⟩,lv, -⟩:=HO.out _ am;obtain⟨f1,f2,f3,f4,f5,f6⟩:=HF.out j G;obtain⟨nu,su,gu⟩:=ru.src;obtain⟨nv,sv,gv⟩:=rv.src;have ay:wr.cell? ⟨b,off+j*2,none⟩=some (U j):=(O.cell (p:=⟨b,_,none⟩) ae).trans cu;have ax:wr.cell? ⟨b,off+j*2+1,none⟩=some (V j):=(O.cell (p:=⟨b,_,none⟩) ae).trans cv;have ag:=hid (su.below O);have aj:=hid (sv.below O);have ar:=hid (qj5 su.1 gu gv);obtain⟨au,ku,VU,eu, -, -⟩:=ru;obtain⟨av,kv,VV,ev, -, -⟩:=rv;rw[eu]at ay ag;rw[ev]at ax aj;clear su sv gu gv cu cv eu ev;generalize Y:(qy ss j).1.length=o at*;generalize Z:(qy ss j).2.length=D at*;by_cases X:(o:Int)=r j
      · by_cases h2:(D:Int)=af j
        · have q1:((o:Int) != r j)=false:=by rw[bne_eq_false_iff_eq];exact X
          have q2:((D:Int) != T j - F j - r j - 1)=false:=by rw[bne_eq_false_iff_eq];omega
          have H1:=hid X;have H2:=hid h2;clear X h2;go_wp2_with fail
          refine J8 ?_;intro W hW;have aB:W.heap.size=wr.heap.size+2:=by rw[hW];simp
          have ab:Below wr.heap.size wr W:=by rw[hW];exact(Br.alloc Nl _).alloc (by simp) _
          have cU:W.cell? ⟨wr.heap.size+1,0,none⟩=some (.slice au o ku):=by
            rw[hW,show wr.heap.size+1=(wr.alloc (Obj.cells #[.int .i64 (R j),.int .u64 (A j),.int .u64 (F j),.int .u64 (T j),.bool (la j),.bool (ro j),.int .u64 (r j)] 131)).heap.size by simp];exact qd (Wn _ _) 0
          have cV:W.cell? ⟨wr.heap.size+1,1,none⟩=some (.slice av D kv):=by
            rw[hW,show wr.heap.size+1=(wr.alloc (Obj.cells #[.int .i64 (R j),.int .u64 (A j),.int .u64 (F j),.int .u64 (T j),.bool (la j),.bool (ro j),.int .u64 (r j)] 131)).heap.size by simp];exact qd (Wn _ _) 1
          have kW:wr.heap.size+1<W.heap.size:=by omega
          have ap:=ag.out.below ab;have an:=aj.out.below ab;clear hW;go_region_held3 (fun w'=>w'.cell? ⟨wr.heap.size+1,0,none⟩=some (.slice au o ku)/\w'.cell? ⟨wr.heap.size+1,1,none⟩=some (.slice av D kv))
            (first|go_keep|exact⟨(ac.cell (p:=⟨wr.heap.size+1,0,none⟩) kW).trans cU,(ac.cell (p:=⟨wr.heap.size+1,1,none⟩) kW).trans cV⟩|exact⟨(I.cell (p:=⟨wr.heap.size+1,0,none⟩) kW).trans cU,(I.cell (p:=⟨wr.heap.size+1,1,none⟩) kW).trans cV⟩)
            (first
              | (refine Z9 (by rfl) _ _ _ (by rfl) W W.heap.size rfl (by first|exact Below.refl _ _|exact Br.drew|exact Br.drew.drew|exact Br.drew.drew.drew) 24 i0 (.slice none 0 0) 24 Tryz.underlying67 hi al ak ai rfl (.slice none 0 0) 0 [] (by rfl) (Wo _ _ _ _) (.slice au o ku) o nu (by rfl) ap (by unfold maxLen;omega) (by omega) ?_;intro vA wA q I)
              | (refine Z9 (by rfl) _ _ _ (by rfl) W W.heap.size rfl (by first|exact I|exact I.drew|exact I.drew.drew|exact I.drew.drew.drew) 24 i0 (.slice none 0 0) 24 Tryz.underlying67 hi al ak ai rfl vA (0+o) ([]++nu) (by rfl) (by first|exact q|exact q.drew|exact q.drew.drew|exact q.drew.drew.drew) (.slice av D kv) D nv (by rfl) an (by unfold maxLen;omega) (by omega) ?_;intro vB wB J ac;obtain⟨gB,kB,rfl⟩:=Yk J))
          have S:wB.ownsRow W.heap.size 24 1 (.slice gB (o+D) kB) (o+D) (nu++nv):=by simpa using J
          have ao:Below wr.heap.size wr wB:=ab.trans (ac.mono (by omega));have aa:=hx.below ao;have aJ:=aa.2.2.1;clear J q I;go_wp2_with fail
          go_loopw [64] (fun i wi=> ∃k:Nat,i= .int .i64 k/\wB=wi/\k<=o+D/\Hid (∀k',k'<k->((Qs ((qy ss j).1++(qy ss j).2) k').length:Int)=t.i)) (fun i _=>o+D - (intOf i).toNat)
          case atStart=>exact⟨0,rfl,rfl,by omega,hid (fun k h=>absurd h (Nat.not_lt_zero _))⟩
          case round=>
            obtain⟨k,rfl,rfl,hk,HK⟩:=hrel;by_cases aq:k<o+D
            · obtain⟨g',c',e⟩:=ownsRow_form S (by omega)
              simp only[Value.slice.injEq,true_and]at e;obtain⟨rfl,rfl⟩:=e;obtain⟨x,cx,ex⟩:=ar.out k (by omega);have aC:=(S.cellAt k (by omega)).trans ex;by_cases h3:((Qs ((qy ss j).1++(qy ss j).2) k).length:Int)=t.i
              · have q3:(((Qs ((qy ss j).1++(qy ss j).2) k).length:Int) != t.i)=false:=by rw[bne_eq_false_iff_eq];exact h3
                have H3:=hid h3;clear h3;generalize ad:(Qs ((qy ss j).1++(qy ss j).2) k).length=ln at*;go_wp2
                refine⟨⟨k+1,rfl,by trivial,by omega,hid fun k' aH=>?_⟩,by simp[intOf];omega⟩;by_cases e:k'=k
                · rw[e,ad];exact H3.out
                · exact HK.out k' (by omega)
              · have q3:(((Qs ((qy ss j).1++(qy ss j).2) k).length:Int) != t.i)=true:=by rw[bne_iff_ne];exact h3
                have H3:=hid h3;clear h3;generalize ad:(Qs ((qy ss j).1++(qy ss j).2) k).length=ln at*;go_wp2
                go_ret
                refine⟨false,rfl,⟨fun e=>absurd e (by simp),fun h=>?_⟩,aa.1⟩;exact absurd ((h j G).2.2 _ (yb (k:=k) (by rw[List.length_append,Y,Z];exact aq))) (by rw[ad];exact H3.out)
            · obtain rfl:k=o+D:=by omega
              go_wp2
              refine⟨⟨j+1,rfl,by omega,aa,hid fun j' aD=>?_⟩,by simp[intOf];omega⟩;by_cases e:j'=j
              · rw[e]
                exact⟨by rw[Y];exact H1.out,by rw[Z];exact H2.out,qcv (by rw[List.length_append,Y,Z];exact HK.out)⟩
              · exact HS.out j' (by omega)
        · have q1:((o:Int) != r j)=false:=by rw[bne_eq_false_iff_eq];exact X
          have q2:((D:Int) != T j - F j - r j - 1)=true:=by rw[bne_iff_ne];omega
          have H2:=hid h2;clear X h2;go_wp2
          go_ret
          exact⟨false,rfl,⟨fun e=>absurd e (by simp),fun h=>absurd ((h j G).2.1) (by rw[Z];exact H2.out)⟩,(O.alloc (by omega) _).alloc (by simp;omega) _⟩
      · have q1:((o:Int) != r j)=true:=by rw[bne_iff_ne];exact X
        have H1:=hid X;clear X;go_wp2
        go_ret
        exact⟨false,rfl,⟨fun e=>absurd e (by simp),fun h=>absurd ((h j G).1) (by rw[Y];exact H1.out)⟩,(O.alloc (by omega) _).alloc (by simp;omega) _⟩
    · obtain rfl:j=ss.length:=by omega
      go_wp2
      go_ret
      exact⟨true,rfl,⟨fun _=>HS.out,fun _=>rfl⟩,O⟩
theorem qfq (t:TreeV)(total leaf:Nat)(u:Value)(ss:List Qd)(w:World)(S:StepsAt w u ss)(J:QX 1048576 ss)(g q m:Nat)(V:g<w.heap.size)(G:m<=255)(I:1<=m)
    (R A F T o r:Nat->Int) (la O:Nat->Bool) (U: ∀j,j<m->StageAt w g R A F T o la O j)
    (X: ∀j,j<m->0<=F j/\F j<=T j/\T j<=18446744073709551615/\0<=o j/\0<=r j/\r j=T j - F j - o j - 1):
    Calls Tryz.prog 93 #[t.val,.agg #[.int .u64 total,.int .u64 leaf,u],.slice (some ⟨g,0,none⟩) m q] w fun e w'=> ∃b:Bool,e= .returned (.bool b)/\(b=true↔zd t.i m o r ss)/\Below w.heap.size w w':=by
  by_cases h:ss.length=m
  · subst h
    refine(qh0 t total leaf u ss w S J g q V G I R A F T o r la O (hid U) (hid X)).mono ?_;rintro e w' ⟨b,rfl,Y,D⟩
    exact⟨b,rfl,Y.trans ⟨fun h=>⟨rfl,h⟩,fun h=>h.2⟩,D⟩
  · refine(qi7 t total leaf u ss w S J m _ q G h).mono ?_
    rintro e w' ⟨rfl,D⟩
    exact⟨false,rfl,⟨fun e=>absurd e (by simp),fun Z=>absurd Z.1 h⟩,D⟩
def SpotAt (w:World)(g:Nat)(A F T:Nat->Int)(j:Nat):Prop:=
  w.cell? ⟨g,j*6+1,none⟩=some (.int .u64 (A j))/\w.cell? ⟨g,j*6+2,none⟩=some (.int .u64 (F j))/\w.cell? ⟨g,j*6+3,none⟩=some (.int .u64 (T j))
theorem SpotAt.below {w:World}(h:SpotAt w g A F T j)(q:g<w.heap.size)(o:Below w.heap.size w w'):SpotAt w' g A F T j:=by
  obtain⟨r,G,D⟩:=h;exact⟨(o.cell (p:=⟨g,_,none⟩) q).trans r,(o.cell (p:=⟨g,_,none⟩) q).trans G,(o.cell (p:=⟨g,_,none⟩) q).trans D⟩
theorem qeS (t:TreeV)(total leaf:Nat)(u:Value)(ss:List Qd)(w:World)(r:StepsAt w u ss)(q:QX 1048576 ss)(m:Nat)(D:Option Addr)(o:Nat)(I:m<=255)(G:ss.length≠m):
    Calls Tryz.prog 101 #[t.val,.agg #[.int .u64 total,.int .u64 leaf,u],.slice D (m+1) o] w fun e w'=>e= .returned (.bool false)/\Below w.heap.size w w':=by
  obtain⟨a,c,U,V,rfl, -, -⟩:=r;have J:=q.1;have O:((ss.length:Int) != (m:Int))=true:=by rw[bne_iff_ne];omega
  have S:(ss.length != m)=true:=by rw[bne_iff_ne];omega
  unfold TreeV.val;go_enter Tryz.func101,Tryz.ntmps101
  go_wp2
  go_ret
  exact⟨rfl,(Br.alloc Nl _).alloc (by simp) _⟩
theorem pRowsAt.elem {w:World}{a:Option Addr}{r:Nat}(h:pRowsAt w (.slice a n r) ds)(o:k<n):
    n=ds.length/\ ∃b off x c,a=some ⟨b,off,none⟩/\b<w.heap.size/\w.cell? ⟨b,off+k,none⟩=some (.slice x (Qs ds k).length c)/\Holds8 w (.slice x (Qs ds k).length c) (Qs ds k):=by
  obtain⟨S,O,J,e, -,h⟩:=h;simp only[Value.slice.injEq]at e;obtain⟨rfl,rfl,rfl⟩:=e;obtain⟨b,off,rfl,G,h⟩:=h.resolve_left (fun e=>by rw[e]at o;simp at o);obtain⟨D,q⟩:=h k o;obtain⟨x,c,e,I⟩:=id q;rw[e]at D q;exact⟨rfl,b,off,x,c,rfl,G,D,q⟩
theorem qdV (t:TreeV)(total leaf:Nat)(u:Value)(ss:List Qd)(w:World)(hs:StepsAt w u ss)(ho:QX 1048576 ss)(g ax:Nat)(hg:g<w.heap.size)(hm:ss.length<=255)(ai:1<=ss.length)
    (A F T ch af:Nat->Int) (HC:Hid (∀j,j<ss.length+1->SpotAt w g A F T j))
    (HF:Hid (∀j,j<ss.length->0<=F (j+1)/\F (j+1)<=A j/\A j+1<=T (j+1)/\T (j+1)<=18446744073709551615/\ch j=A j - F (j+1)/\af j=T (j+1) - A j - 1)):
    Calls Tryz.prog 101 #[t.val,.agg #[.int .u64 total,.int .u64 leaf,u],.slice (some ⟨g,0,none⟩) (ss.length+1) ax] w fun e w'=> ∃b:Bool,e= .returned (.bool b)/\(b=true↔ ∀j,j<ss.length->Zh t.i ch af ss j)/\Below w.heap.size w w':=by
  obtain⟨a,c,U,V,rfl, -,h⟩:=hs;obtain⟨b,off,rfl,ae,h'⟩:=h.resolve_left (fun e=>by rw[e]at ai;simp at ai);have HU:=hid h';clear h h';have HO:=hid ho.2;unfold TreeV.val;go_enter Tryz.func101,Tryz.ntmps101
  go_wp2_with fail
  go_loopw [7] (fun i wr=> ∃j:Nat,i= .int .i64 ((j:Int)+1)/\j<=ss.length/\Boxes w t.i (.slice (some ⟨b,off,none⟩) ss.length c) wr/\Hid (∀j',j'<j->Zh t.i ch af ss j')) (fun i _=>ss.length+1 - (intOf i).toNat)
  case atStart=>exact⟨0,rfl,by omega,qbh w rfl rfl,hid (fun j' h=>absurd h (Nat.not_lt_zero _))⟩
  case round=>
    obtain⟨j,rfl,hj,hx,HS⟩:=hrel;obtain⟨X,aR,aS,aV⟩:=id hx;have am:g<wr.heap.size:=by omega
    have aI:b<wr.heap.size:=by omega
    have aP:w.heap.size<wr.heap.size:=by omega
    have aG:w.heap.size+1<wr.heap.size:=by omega
    by_cases r:j<ss.length
    · have ay:=(HC.out j (by omega)).below hg X
      have aB:=(HC.out (j+1) (by omega)).below hg X;obtain⟨cu,cv,ru,rv⟩:=HU.out j r;have ar:qy ss j∈ss:=by unfold qy;rw[Lg,List.getElem?_eq_getElem r];exact List.getElem_mem r
      obtain⟨⟨lu,ao⟩,lv,an⟩:=HO.out _ ar;have LU:=hid ao;have LV:=hid an;clear ao an;obtain⟨f1,f2,f3,f4,f5,f6⟩:=HF.out j r;have aC:wr.cell? ⟨b,off+j*2,none⟩=some (U j):=(X.cell (p:=⟨b,_,none⟩) ae).trans cu;have az:wr.cell? ⟨b,off+j*2+1,none⟩=some (V j):=(X.cell (p:=⟨b,_,none⟩) ae).trans cv;have ap:=hid (ru.below X);have al:=hid (rv.below X);obtain⟨au,ku,VU,eu, -, -⟩:=ru;obtain⟨av,kv,VV,ev, -, -⟩:=rv;rw[eu]at aC ap;rw[ev]at az al;clear cu cv eu ev;generalize aa:(qy ss j).1.length=J at*;generalize ab:(qy ss j).2.length=I at*;go_wp2_with fail
      refine J8 ?_;intro W hW;have aK:W.heap.size=wr.heap.size+1:=by rw[hW];simp
      have S:Below wr.heap.size wr W:=by rw[hW];exact Br.alloc Nl _
      have cU:W.cell? ⟨wr.heap.size,0,none⟩=some (.slice au J ku):=by
        rw[hW];exact qd (Wn _ _) 0
      have cV:W.cell? ⟨wr.heap.size,1,none⟩=some (.slice av I kv):=by
        rw[hW];exact qd (Wn _ _) 1
      have kW:wr.heap.size<W.heap.size:=by omega
      obtain⟨a1,a2,a3⟩:=ay.below am S;obtain⟨b1,b2,b3⟩:=aB.below am S;have aq:=hid (ap.out.below S);have aw:=hid (al.out.below S);have Z:=hx.below S;clear hW;generalize wr.heap.size=N at*;have aH:g<W.heap.size:=by omega
      by_cases h1:(J:Int)=ch j
      · have q1:((J:Int) != A j - F (j+1))=false:=by rw[bne_eq_false_iff_eq];omega
        by_cases h2:(I:Int)=af j
        · have q2:((I:Int) != T (j+1) - A j - 1)=false:=by rw[bne_eq_false_iff_eq];omega
          have H1:=hid h1;have H2:=hid h2;clear h1 h2;go_quiet (fail)
          go_wp2_with fail
          go_loopw [9] (fun i wi=> ∃k:Nat,i= .int .i64 k/\k<=J/\Below W.heap.size W wi/\Hid (∀o,o<k->((Qs (qy ss j).1 o).length:Int)=t.i)) (fun i _=>J - (intOf i).toNat)
          case atStart=>exact⟨0,rfl,by omega,below_draws _ _ _,hid (fun k h=>absurd h (Nat.not_lt_zero _))⟩
          case round=>
            obtain⟨k,rfl,hk,G,HK⟩:=hrel;have aL:=G.size;have ah:=Z.below G;obtain⟨-, -,aD, -⟩:=id ah;have aW:wr.cell? ⟨N,0,none⟩=some (.slice au J ku):=(G.cell (p:=⟨N,0,none⟩) kW).trans cU;by_cases ag:k<J
            · obtain⟨-,bu,ou,x,cx,rfl,aN,aM, -⟩:=pRowsAt.elem (aq.out.below G) ag
              by_cases q:((Qs (qy ss j).1 k).length:Int)=t.i
              · have q3:(((Qs (qy ss j).1 k).length:Int) != t.i)=false:=by rw[bne_eq_false_iff_eq];exact q
                have Y:=hid q;clear q;generalize D:(Qs (qy ss j).1 k).length=ln at*;go_wp2_with fail
                go_quiet (fail)
                go_wp2
                refine⟨⟨k+1,rfl,by omega,G.trans (below_draws _ _ _),hid fun o aA=>?_⟩,by simp[intOf];omega⟩;by_cases e:o=k
                · rw[e,D];exact Y.out
                · exact HK.out o (by omega)
              · have q3:(((Qs (qy ss j).1 k).length:Int) != t.i)=true:=by rw[bne_iff_ne];exact q
                have Y:=hid q;clear q;generalize D:(Qs (qy ss j).1 k).length=ln at*;go_wp2_with fail
                go_quiet (fail)
                go_wp2
                go_ret
                refine⟨false,rfl,⟨fun e=>absurd e (by simp),fun h=>?_⟩,ah.1.trans (below_draws _ _ _)⟩;exact absurd ((h j r).2.2 _ (List.mem_append_left _ (yb (k:=k) (by rw[aa];exact ag)))) (by rw[D];exact Y.out)
            · obtain rfl:k=J:=by omega
              go_wp2_with fail
              go_loopw [10] (fun i wj=> ∃k:Nat,i= .int .i64 k/\k<=I/\Below W.heap.size W wj/\Hid (∀o,o<k->((Qs (qy ss j).2 o).length:Int)=t.i)) (fun i _=>I - (intOf i).toNat)
              case atStart=>exact⟨0,rfl,by omega,G,hid (fun k h=>absurd h (Nat.not_lt_zero _))⟩
              case round=>
                obtain⟨o,rfl,aA,O,aj⟩:=hrel;have aT:=O.size;have ac:=Z.below O;obtain⟨-, -,aF, -⟩:=id ac;have aJ:wr.cell? ⟨N,1,none⟩=some (.slice av I kv):=(O.cell (p:=⟨N,1,none⟩) kW).trans cV;by_cases ad:o<I
                · obtain⟨-,bv,ov,y,cy,rfl,aU,aQ, -⟩:=pRowsAt.elem (aw.out.below O) ad
                  by_cases q:((Qs (qy ss j).2 o).length:Int)=t.i
                  · have q3:(((Qs (qy ss j).2 o).length:Int) != t.i)=false:=by rw[bne_eq_false_iff_eq];exact q
                    have Y:=hid q;clear q;generalize D:(Qs (qy ss j).2 o).length=ln at*;go_wp2_with fail
                    go_quiet (fail)
                    go_wp2
                    refine⟨⟨o+1,rfl,by omega,O.trans (below_draws _ _ _),hid fun ak aE=>?_⟩,by simp[intOf];omega⟩;by_cases e:ak=o
                    · rw[e,D];exact Y.out
                    · exact aj.out ak (by omega)
                  · have q3:(((Qs (qy ss j).2 o).length:Int) != t.i)=true:=by rw[bne_iff_ne];exact q
                    have Y:=hid q;clear q;generalize D:(Qs (qy ss j).2 o).length=ln at*;go_wp2_with fail
                    go_quiet (fail)
                    go_wp2
                    go_ret
                    refine⟨false,rfl,⟨fun e=>absurd e (by simp),fun h=>?_⟩,ac.1.trans (below_draws _ _ _)⟩;exact absurd ((h j r).2.2 _ (List.mem_append_right _ (yb (k:=o) (by rw[ab];exact ad)))) (by rw[D];exact Y.out)
                · obtain rfl:o=I:=by omega
                  go_wp2
                  refine⟨⟨j+1,by simp,by omega,ac,hid fun j' aO=>?_⟩,by simp[intOf];omega⟩;by_cases e:j'=j
                  · rw[e]
                    refine⟨by rw[aa];exact H1.out,by rw[ab];exact H2.out,fun d hd=>?_⟩;rcases List.mem_append.1 hd with hd|hd
                    · exact qcv (by rw[aa];exact HK.out) d hd
                    · exact qcv (by rw[ab];exact aj.out) d hd
                  · exact HS.out j' (by omega)
        · have q2:((I:Int) != T (j+1) - A j - 1)=true:=by rw[bne_iff_ne];omega
          have H2:=hid h2;clear h1 h2;go_quiet (fail)
          go_wp2
          go_ret
          exact⟨false,rfl,⟨fun e=>absurd e (by simp),fun h=>absurd ((h j r).2.1) (by rw[ab];exact H2.out)⟩,Z.1.trans (below_draws _ _ _)⟩
      · have q1:((J:Int) != A j - F (j+1))=true:=by rw[bne_iff_ne];omega
        have H1:=hid h1;clear h1;go_quiet (fail)
        go_wp2
        go_ret
        exact⟨false,rfl,⟨fun e=>absurd e (by simp),fun h=>absurd ((h j r).1) (by rw[aa];exact H1.out)⟩,Z.1.trans (below_draws _ _ _)⟩
    · obtain rfl:j=ss.length:=by omega
      go_wp2
      go_ret
      exact⟨true,rfl,⟨fun _=>HS.out,fun _=>rfl⟩,X⟩
theorem qeT (t:TreeV)(total leaf:Nat)(u:Value)(ss:List Qd)(w:World)(O:StepsAt w u ss)(J:QX 1048576 ss)(g o m:Nat)(U:g<w.heap.size)(G:m<=255)(I:1<=m)
    (A F T r q:Nat->Int) (S: ∀j,j<m+1->SpotAt w g A F T j)
    (V: ∀j,j<m->0<=F (j+1)/\F (j+1)<=A j/\A j+1<=T (j+1)/\T (j+1)<=18446744073709551615/\r j=A j - F (j+1)/\q j=T (j+1) - A j - 1):
    Calls Tryz.prog 101 #[t.val,.agg #[.int .u64 total,.int .u64 leaf,u],.slice (some ⟨g,0,none⟩) (m+1) o] w fun e w'=> ∃b:Bool,e= .returned (.bool b)/\(b=true↔zd t.i m r q ss)/\Below w.heap.size w w':=by
  by_cases h:ss.length=m
  · subst h
    refine(qdV t total leaf u ss w O J g o U G I A F T r q (hid S) (hid V)).mono ?_;rintro e w' ⟨b,rfl,X,D⟩
    exact⟨b,rfl,X.trans ⟨fun h=>⟨rfl,h⟩,fun h=>h.2⟩,D⟩
  · refine(qeS t total leaf u ss w O J m _ o G h).mono ?_
    rintro e w' ⟨rfl,D⟩
    exact⟨false,rfl,⟨fun e=>absurd e (by simp),fun Y=>absurd Y.1 h⟩,D⟩
theorem qd0 {w:World}{N:Nat}{T:TypeId}(h:w.ownsRow B e size v n xs)(q:w.heap[N]? =some (.cells c T fr))(D:T≠e):some N≠v.ownBlock:=by
  intro o;rcases h.2 with⟨rfl, -⟩|⟨g,I,G,rfl, -,r, -⟩
  · simp[Value.ownBlock]at o
  · simp only[Value.ownBlock,Option.some.injEq]at o
    subst o;rw[r]at q;simp only[Option.some.injEq,Obj.cells.injEq]at q;exact D q.2.1.symm
theorem yE {w:World}{q:List Oper}(J:o.guard=none)(s x:Operand)
    (ho:o.op= .call { callee:= .builtin .append,args:= #[s,x],argTypes:= #[24,24] }) (B:Nat) (L:List Int) (v:Value) (hs:a.eval s=v) (G:w.ownsRow B 5 1 v L.length (L.map qp))
    (u:Value) (zs:List Int) (hx:a.eval x=u) (I:Holds8 w u zs) (U:zs≠[]) (aa:L.length+zs.length<=1099511627776) (Z:B<=w.heap.size)
    (h: ∀v' w',w'.ownsRow B 5 1 v' (L++zs).length ((L++zs).map qp)->w.grownBy w' v.ownBlock->wpList Tryz.prog ops Q q (a.put o.dst v') w'):wpList Tryz.prog ops Q (o::q) a w:=by
  obtain⟨i0,hi,V,S,X⟩:=info_parts Qu;obtain⟨ad,O,rfl,I⟩:=I;obtain⟨b,off,rfl,ab,Y⟩:=I.resolve_left U;refine wpList_append_own w J s x _ ho B 5 i0 (.int .u8 0) 1 1 Tryz.underlying24 hi V S X rfl (by decide) v L.length (L.map qp) hs G ⟨b,off,none⟩ zs.length O (zs.map qp) hx (by simp) (qah Y) (by simp[qp,Value.oneCell']) (by unfold maxLen;omega) (by omega) Z ?_;intro v' w' D r _;exact h v' w' (by rw[List.length_append,List.map_append];exact D) r
def qL (ds:List (List Int)):Nat->List Int
  | 0=>[]
  | k+1=>qL ds k++Qs ds k
def yi (ss:List Qd):Nat->List Int
  | 0=>[]
  | k+1=>yi ss k++(qL (qy ss k).1 (qy ss k).1.length++qL (qy ss k).2 (qy ss k).2.length)
def ye (total leaf:Nat)(ss:List Qd)(k:Nat):List Int:=(qD total 8++qD leaf 8)++yi ss k
theorem yw {ds:List (List Int)}{i:Nat}(h: ∀d∈ds,d.length=i): ∀k,k<=ds.length->(qL ds k).length=k*i
  | 0,_=>by simp[qL]
  | k+1,hk=>by
    simp only[qL,List.length_append,yw h k (by omega),h _ (yb (k:=k) (by omega))];rw[Nat.add_mul,Nat.one_mul]
theorem qeC (L:List Int)(ds:List (List Int))(k:Nat):L++qL ds (k+1)=L++qL ds k++Qs ds k:=by simp[qL]
theorem ZL (h:k<ss.length):qy ss k∈ss:=by
  unfold qy;rw[Lg,List.getElem?_eq_getElem h];exact List.getElem_mem h
theorem Jq {ss:List Qd}{i:Nat}(q:QX 1048576 ss)(hi:i<=64)(h: ∀j,j<ss.length-> ∀d∈(qy ss j).1++(qy ss j).2,d.length=i): ∀k,k<=ss.length->(yi ss k).length<=k*134217728
  | 0,_=>by simp[yi]
  | k+1,hk=>by
    have J:=Jq q hi h k (by omega);obtain⟨I,G⟩:=q.2 _ (ZL (k:=k) (by omega));have r:=yw (fun d o=>h k (by omega) d (List.mem_append_left _ o)) (qy ss k).1.length Nl;have D:=yw (fun d o=>h k (by omega) d (List.mem_append_right _ o)) (qy ss k).2.length Nl;have S:(qy ss k).1.length*i<=1048576*64:=Nat.mul_le_mul I.1 hi;have O:(qy ss k).2.length*i<=1048576*64:=Nat.mul_le_mul G.1 hi;simp only[yi,List.length_append,r,D];omega
theorem zT {total leaf:Nat}:(ye total leaf ss k).length=16+(yi ss k).length:=by
  simp only[ye,List.length_append,qH]
theorem qgn (total leaf:Nat)(ss:List Qd)(k:Nat):ye total leaf ss (k+1)=ye total leaf ss k++qL (qy ss k).1 (qy ss k).1.length++qL (qy ss k).2 (qy ss k).2.length:=by
  simp only[ye,yi,List.append_assoc]
def StagesIs (w:World)(g m:Nat)(R A F T ch:Nat->Int)(la ro:Nat->Bool):Prop:=g<w.heap.size/\ ∀j,j<m->StageAt w g R A F T ch la ro j
theorem StagesIs.below {w:World}{o:Nat->Int}{r:Nat->Bool}(h:StagesIs w g m R A F T o la r)(q:Below w.heap.size w w'):StagesIs w' g m R A F T o la r:=
  ⟨Nat.lt_of_lt_of_le h.1 q.size,fun j D=>(h.2 j D).below h.1 q⟩
theorem qaA (w:World){q:Array Value}{r D:TypeId}{a b:Value}: ∀o,((w.alloc (.cells q r)).alloc (.cells #[a,b,u] D)).cell? ⟨w.heap.size+1,o,none⟩= #[a,b,u][o]? :=by
  intro o;have e:(w.alloc (.cells q r)).heap.size=w.heap.size+1:=by simp
  rw[<-e,qd (Wn (w.alloc (.cells q r)) _) o]
theorem qd2 {w:World}{e:Nat}(h:w.ownsRow B e size v n xs)(r:b<=B):w.ownsRow b e size v n xs:=
  ⟨h.1,h.2.imp id fun⟨g,q,o,D,I,G⟩=>⟨g,q,o,D,Nat.le_trans r I,G⟩⟩
theorem qg6 (t:TreeV)(total leaf:Nat)(a5:(total:Int)<=18446744073709551615)(aK:(leaf:Int)<=18446744073709551615)(u:Value)(ss:List Qd)(w:World)(hs:StepsAt w u ss)(ho:QX 1048576 ss)(m:Nat)(hm:m<=255)(ar:1<=m)(hi:1<=t.i/\t.i<=64)
    (R A F T ch af:Nat->Int) (la ro:Nat->Bool)
    (HW:Hid (∀w,Calls Tryz.prog 72 #[t.val,.int .u64 total,.int .u64 leaf] w fun e w'=> ∃g ad,e= .returned (.tuple #[.slice (some ⟨g,0,none⟩) m ad,.int .i64 0])/\StagesIs w' g m R A F T ch la ro/\Below w.heap.size w w'))
    (HF:Hid (∀j,j<m->0<=F j/\F j<=T j/\T j<=18446744073709551615/\0<=ch j/\0<=af j/\af j=T j - F j - ch j - 1)):
    Calls Tryz.prog 56 #[t.val,.agg #[.int .u64 total,.int .u64 leaf,u]] w fun r w'=> ∃v e,r= .returned (.tuple #[v,.int .i64 e])/\((¬zd t.i m ch af ss/\v= .slice none 0 0/\e=4)\/(zd t.i m ch af ss/\e=0/\w'.ownsRow w.heap.size 5 1 v (ye total leaf ss ss.length).length ((ye total leaf ss ss.length).map qp)))/\Below w.heap.size w w':=by
  have HS:=hid hs;have a3:=hid (fun(w1:World) (g ad:Nat) (h1:StepsAt w1 u ss) (h2:StagesIs w1 g m R A F T ch la ro)=>qfq t total leaf u ss w1 h1 ho g ad m h2.1 hm ar R A F T ch af la ro h2.2 HF.out);obtain⟨ua,uc,U,V,rfl, -,aW⟩:=hs;unfold TreeV.val at*;go_enter Tryz.func56,Tryz.ntmps56
  go_wp2_with fail
  refine(HW.out _).mono ?_;rintro r w1 ⟨g,ad,rfl,aE,D⟩;have ap:=D.size;simp at ap
  have k1:w.heap.size<w1.heap.size:=by omega
  have bw:w.heap.size+1<w1.heap.size:=by omega
  have aQ:Below w.heap.size w w1:=qs _ (Below.trans (Br.alloc Nl _) (D.mono (by simp)));obtain⟨bk,bl⟩:=Q5 D;go_wp2_with fail
  refine(a3.out _ g ad (HS.out.below aQ) aE).mono ?_;rintro r q ⟨b,rfl,aG,aD⟩;have bA:=aD.size;have ak:Below w.heap.size w q:=aQ.trans (aD.mono (by omega));have aS:=D.trans (aD.mono D.size);obtain⟨am,bm⟩:=Q5 aS
  cases b with
  | false=>
    go_wp2
    exact Bp (results_tmp2 (fn:=Tryz.f56) (t:=4) (u:=5) rfl _ _ _) rfl ⟨_,_,rfl,.inl ⟨fun h=>absurd (aG.2 h) (by simp),rfl,rfl⟩,ak⟩
  | true=>
    have aw:=aG.1 rfl;obtain⟨i0,bn,bs,br,bc⟩:=info_parts Qu;have c0:q.cell? ⟨w.heap.size+1,0,none⟩=some (.int .u64 total):=(am _ 0 (by simp)).trans (qaA w 0);have c1:q.cell? ⟨w.heap.size+1,1,none⟩=some (.int .u64 leaf):=(am _ 1 (by simp)).trans (qaA w 1);have c2:q.cell? ⟨w.heap.size+1,2,none⟩=some (.slice ua ss.length uc):=(am _ 2 (by simp)).trans (qaA w 2);have k2:w.heap.size+1<q.heap.size:=by omega
    have aU:=hid aw;go_wp2_with fail
    clear bk bl am bm aG aw aS D aE;go_region_held3 (fun w'=>w'.cell? ⟨w.heap.size+1,0,none⟩=some (.int .u64 total)/\w'.cell? ⟨w.heap.size+1,1,none⟩=some (.int .u64 leaf))
      (first|go_keep|exact⟨(aj.cell (p:=⟨w.heap.size+1,0,none⟩) k2).trans c0,(aj.cell (p:=⟨w.heap.size+1,1,none⟩) k2).trans c1⟩|exact⟨(Z.cell (p:=⟨w.heap.size+1,0,none⟩) k2).trans c0,(Z.cell (p:=⟨w.heap.size+1,1,none⟩) k2).trans c1⟩|exact⟨(ae.cell (p:=⟨w.heap.size+1,0,none⟩) k2).trans c0,(ae.cell (p:=⟨w.heap.size+1,1,none⟩) k2).trans c1⟩)
      (first
        | (go_at_call_of 97 (Value.int .u64 total);refine(JG total a5 _).mono ?_;rintro e wa ⟨va,rfl,an,aR⟩;have ae:Below q.heap.size q wa:=(by refine Below.trans ?_ (aR.mono (by simp));repeat(first|exact Below.refl _ _|refine Below.drew ?_));have bp:=ae.size;have ag:wa.ownsRow q.heap.size 5 1 va 8 ((qD total 8).map qp):=ownsRow_le an (by simp);clear an aR)
        | (go_at_call_of 97 (Value.int .u64 leaf);refine(JG leaf aK _).mono ?_;rintro e wb ⟨vb,rfl,ao,aP⟩;have ah:Below wa.heap.size wa wb:=(by refine Below.trans ?_ (aP.mono (by simp));repeat(first|exact Below.refl _ _|refine Below.drew ?_));have Z:Below q.heap.size q wb:=ae.trans (ah.mono bp);have J:wb.ownsRow q.heap.size 5 1 va 8 ((qD total 8).map qp):=yN ag (fun g _ g2=>ah.block g g2);have S:=qe2 ao (by simp[qp,Value.oneCell']);clear ao aP)
        | (refine qaB (by rfl) _ _ _ (by rfl) q q.heap.size rfl (by first|exact Z|exact Z.drew|exact Z.drew.drew) 5 i0 (.int .u8 0) 1 Tryz.underlying24 bn bs br bc rfl va 8 ((qD total 8).map qp) (by rfl) (by first|exact J|exact J.drew|exact J.drew.drew) vb 8 ((qD leaf 8).map qp) (by rfl) (by first|exact S|exact S.below Br.drew|exact S.below Br.drew.drew) (by unfold maxLen;omega) (by omega) ?_;intro vc wc al aj))
    have aL:wc.ownsRow q.heap.size 5 1 vc (ye total leaf ss 0).length ((ye total leaf ss 0).map qp):=by
      have e:(ye total leaf ss 0).length=8+8:=by rw[zT];rfl
      have e2:(ye total leaf ss 0).map qp=(qD total 8).map qp++(qD leaf 8).map qp:=by simp[ye,yi]
      rw[e,e2];exact al
    have bx:wc.cell? ⟨w.heap.size+1,2,none⟩=some (.slice ua ss.length uc):=(aj.cell (p:=⟨w.heap.size+1,2,none⟩) k2).trans c2;obtain⟨bg,aq⟩:=aU.out;subst bg;have ay:=Jq (i:=t.i.toNat) ho (by omega) (fun j hj d hd=>by have:=(aq j (by omega)).2.2 d hd;omega);have HL:=hid ay;have bq:=hid aq;clear al J S ae Z ah ag ay aq;obtain⟨bu,ou,rfl,aM,ax⟩:=aW.resolve_left (fun e=>by rw[e]at ar;simp at ar);have HU:=hid ax;have HO:=hid ho;clear aW ax ho ap;go_wp2_with fail
    go_loopw [42,8] (fun i o wr=> ∃(j:Nat) (v:Value),i= .int .i64 j/\o=v/\j<=ss.length/\wr.ownsRow q.heap.size 5 1 v (ye total leaf ss j).length ((ye total leaf ss j).map qp)/\Below q.heap.size q wr) (fun i _ _=>ss.length - (intOf i).toNat)
    case atStart=>exact⟨0,vc,rfl,rfl,by omega,aL,aj⟩
    case round=>
      obtain⟨j,v,rfl,rfl,hj,aB,hb⟩:=hrel;have bd:=hb.size;have aA:Below w.heap.size w wr:=ak.trans (hb.mono (by omega));by_cases aY:j<ss.length
      · obtain⟨cu,cv,ru,rv⟩:=HU.out j aY
        have bo:wr.cell? ⟨bu,ou+j*2,none⟩=some (U j):=(aA.cell (p:=⟨bu,_,none⟩) aM).trans cu;have bf:wr.cell? ⟨bu,ou+j*2+1,none⟩=some (V j):=(aA.cell (p:=⟨bu,_,none⟩) aM).trans cv;have aV:=hid ru;have aO:=hid rv;obtain⟨au,ku,VU,eu, -, -⟩:=ru;obtain⟨av,kv,VV,ev, -, -⟩:=rv;rw[eu]at bo aV;rw[ev]at bf aO;clear cu cv eu ev;obtain⟨⟨lu, -⟩,lv, -⟩:=HO.out.2 _ (ZL aY);have hL:=HL.out j hj;have ai:=(bq.out j (by omega)).2.2;have aT:=hid ai;have aN:=yw (i:=t.i.toNat) (ds:=(qy ss j).1) (fun d hd=>by have:=ai d (List.mem_append_left _ hd);omega);have aX:=yw (i:=t.i.toNat) (ds:=(qy ss j).2) (fun d hd=>by have:=ai d (List.mem_append_right _ hd);omega);have aZ:=hid aN;have bh:=hid aX;clear ai aN aX;generalize ba:(qy ss j).1.length=nb at*;generalize be:(qy ss j).2.length=na at*;go_wp2_with fail
        have aI:=aB.alloc (Obj.cells #[.slice au nb ku,.slice av na kv] 69);have bb:Below q.heap.size q (wr.alloc (Obj.cells #[.slice au nb ku,.slice av na kv] 69)):=hb.alloc bd _;have aJ:=Wn wr (Obj.cells #[.slice au nb ku,.slice av na kv] 69);generalize wr.heap.size=N at*;go_loopw [49,8] (fun i o wr=> ∃(k:Nat) (v:Value),i= .int .i64 k/\o=v/\k<=nb/\wr.ownsRow q.heap.size 5 1 v (ye total leaf ss j++qL (qy ss j).1 k).length ((ye total leaf ss j++qL (qy ss j).1 k).map qp)/\Below q.heap.size q wr/\wr.heap[N]? =some (Obj.cells #[.slice au nb ku,.slice av na kv] 69 (0,0))) (fun i _ _=>nb - (intOf i).toNat)
        case atStart=>exact⟨0,_,rfl,rfl,by omega,by simpa [qL] using aI,bb,aJ⟩
        case round=>
          obtain⟨k,v1,rfl,rfl,hk,X,D,Y⟩:=hrel;have ap:=D.size;have bj:=(Ai Y).1;have a7:Below w.heap.size w wr:=ak.trans (D.mono (by omega));by_cases a9:k<nb
          · obtain⟨-,b',o',x,cx,rfl,bi,aH,aC⟩:=pRowsAt.elem (aV.out.below a7) a9
            have I:(Qs (qy ss j).1 k).length=t.i.toNat:=by have:=aT.out _ (List.mem_append_left _ (yb (ds:=(qy ss j).1) (k:=k) (by omega)));omega
            have az:Qs (qy ss j).1 k≠[]:=fun e=>by rw[e]at I;simp at I;omega
            have a4:k*t.i.toNat<=1048576*64:=Nat.mul_le_mul (by omega) (by omega);have aF:(ye total leaf ss j++qL (qy ss j).1 k).length+(Qs (qy ss j).1 k).length<=1099511627776:=by
              rw[List.length_append,zT,aZ.out k (by omega),I];omega
            clear I;go_wp2_with (at_builtin;refine yE rfl _ _ rfl q.heap.size (ye total leaf ss j++qL (qy ss j).1 k) _ rfl X _ (Qs (qy ss j).1 k) rfl aC az aF (by omega) ?_;intro v' w' ac O)
            go_roundw
            case measure=>simp[intOf];omega
            refine⟨k+1,v',rfl,rfl,by omega,?_,D.grown O (by omega) (fun k e=>(X.lt k e).1),(O.block N bj (qd0 X Y (by decide))).trans Y⟩;rw[qeC];exact ac
          · obtain rfl:k=nb:=by omega
            have bC:wr.cell? ⟨N,1,none⟩=some (.slice av na kv):=qd Y 1;go_wp2_with fail
            go_loopw [60,8] (fun i o wr=> ∃(G:Nat) (v:Value),i= .int .i64 G/\o=v/\G<=na/\wr.ownsRow q.heap.size 5 1 v (ye total leaf ss j++qL (qy ss j).1 k++qL (qy ss j).2 G).length ((ye total leaf ss j++qL (qy ss j).1 k++qL (qy ss j).2 G).map qp)/\Below q.heap.size q wr) (fun i _ _=>na - (intOf i).toNat)
            case atStart=>exact⟨0,_,rfl,rfl,by omega,by simpa [qL] using X,D⟩
            case round=>
              obtain⟨G,v2,rfl,rfl,bz,ab,aa⟩:=hrel;have bv:=aa.size;have a6:Below w.heap.size w wr:=ak.trans (aa.mono (by omega));by_cases a8:G<na
              · obtain⟨-,b',o',x,cx,rfl,bi,aH,aC⟩:=pRowsAt.elem (aO.out.below a6) a8
                have I:(Qs (qy ss j).2 G).length=t.i.toNat:=by have:=aT.out _ (List.mem_append_right _ (yb (ds:=(qy ss j).2) (k:=G) (by omega)));omega
                have az:Qs (qy ss j).2 G≠[]:=fun e=>by rw[e]at I;simp at I;omega
                have a4:k*t.i.toNat<=1048576*64:=Nat.mul_le_mul (by omega) (by omega);have bt:G*t.i.toNat<=1048576*64:=Nat.mul_le_mul (by omega) (by omega);have aF:(ye total leaf ss j++qL (qy ss j).1 k++qL (qy ss j).2 G).length+(Qs (qy ss j).2 G).length<=1099511627776:=by
                  rw[List.length_append,List.length_append,zT,aZ.out k (by omega),bh.out G (by omega),I];omega
                clear I;go_wp2_with (at_builtin;refine yE rfl _ _ rfl q.heap.size (ye total leaf ss j++qL (qy ss j).1 k++qL (qy ss j).2 G) _ rfl ab _ (Qs (qy ss j).2 G) rfl aC az aF (by omega) ?_;intro v' w' ac O)
                go_roundw
                case measure=>simp[intOf];omega
                refine⟨G+1,v',rfl,rfl,by omega,?_,aa.grown O (by omega) (fun k e=>(ab.lt k e).1)⟩;rw[qeC];exact ac
              · obtain rfl:G=na:=by omega
                go_wp2
                refine⟨⟨j+1,_,rfl,rfl,by omega,?_,aa⟩,by simp[intOf];omega⟩;rw[qgn,ba,be];exact ab
      · obtain rfl:j=ss.length:=by omega
        go_wp2
        exact Bp (results_tmp2 (fn:=Tryz.f56) (t:=4) (u:=5) rfl _ _ _) rfl ⟨_,_,rfl,.inr ⟨aU.out,rfl,qd2 aB (by omega)⟩,aA⟩
def pKeeps (Ts:List TypeId)(w w':World):Prop:=w.heap.size<=w'.heap.size/\ ∀(g:Nat) (c:Array Value) (T:TypeId),T∈Ts->w.heap[g]? =some (Obj.cells c T (0,0))->w'.heap[g]? =some (Obj.cells c T (0,0))
theorem jH {w:World}(h:Below w.heap.size w w'):pKeeps q w w':=
  ⟨h.size,fun g _ _ _ o=>(h.block g (Ai o).1).trans o⟩
theorem pKeeps.trans {o:List TypeId}{w w1 q:World}(r:pKeeps o w w1)(D:pKeeps o w1 q):pKeeps o w q:=
  ⟨Nat.le_trans r.1 D.1,fun g c T G I=>D.2 g c T G (r.2 g c T G I)⟩
theorem qfi {w:World}(h:w.ownsRow B e size v n xs)(r:w.grownBy w' v.ownBlock)(D: ∀T∈q,T≠e):pKeeps q w w':=
  ⟨r.size,fun g _ T G o=>(r.block g (Ai o).1 (qd0 h o (D T G))).trans o⟩
theorem zh {r:List TypeId}{w:World}{T:TypeId}(D:w.heap[b]? =some (.cells c T fr))(I:T∉r)(v:Value):pKeeps r w (w.setCell ⟨b,i,none⟩ v):=by
  refine⟨by simp,fun g J T' q o=>?_⟩;rw[heap_setCell_other w ⟨b,i,none⟩ g v (fun e=>?_)]
  · exact o
  · have G:g=b:=e
    rw[G,D]at o;simp only[Option.some.injEq,Obj.cells.injEq]at o;exact I (o.2.1▸q)
theorem qfj (w:World)(o:Obj):pKeeps q w (w.alloc o):=jH ((Below.refl _ w).alloc Nl o)
def DigT (w:World)(v:Value)(zs:List Int):Prop:=
  ∃b off cap c,v= .slice (some ⟨b,off,none⟩) zs.length cap/\w.heap[b]? =some (.cells c 5 (0,0))/\ ∀i,i<zs.length->c[off+i]? =some (.int .u8 (qo zs i))
theorem DigT.keep {w:World}{o:List TypeId}(h:DigT w v zs)(G:pKeeps o w w')(I:5∈o):DigT w' v zs:=by
  obtain⟨b,off,q,c,e,r,D⟩:=h;exact⟨b,off,q,c,e,G.2 b c _ I r,D⟩
theorem DigT.holds {w:World}(h:DigT w v zs):Holds8 w v zs:=by
  obtain⟨b,off,q,c,e,o,r⟩:=h;exact⟨_,q,e,.inr ⟨b,off,rfl,(Ai o).1,fun i hi=>by rw[qd o];exact r i hi⟩⟩
def RowT (w:World)(v:Value)(ds:List (List Int)):Prop:=
  ∃(a:Option Addr) (cap:Nat) (V:Nat->Value),v= .slice a ds.length cap/\(a=none->cap=0)/\(ds=[]\/ ∃b c,a=some ⟨b,0,none⟩/\w.heap[b]? =some (.cells c 24 (0,0))/\ ∀i,i<ds.length->c[i]? =some (V i)/\DigT w (V i) (Qs ds i))
theorem RowT.keep {w:World}{o:List TypeId}(h:RowT w v ds)(D:pKeeps o w w')(G:5∈o)(r:24∈o):RowT w' v ds:=by
  obtain⟨a,q,V,e,O,h⟩:=h;refine⟨a,q,V,e,O,?_⟩;rcases h with h|⟨b,c,I,J,h⟩
  · exact .inl h
  · exact .inr ⟨b,c,I,D.2 b c _ r J,fun i hi=>⟨(h i hi).1,(h i hi).2.keep D G⟩⟩
theorem RowT.rows {w:World}(h:RowT w v ds):pRowsAt w v ds:=by
  obtain⟨a,q,V,e,D,h⟩:=h;refine⟨a,q,V,e,D,?_⟩;rcases h with h|⟨b,c,r,o,h⟩
  · exact .inl h
  · exact .inr ⟨b,0,r,(Ai o).1,fun i hi=>⟨by rw[qd o,Nat.zero_add];exact(h i hi).1,(h i hi).2.holds⟩⟩
theorem qeD {w:World}(h:w.ownsRow B 24 1 v ds.length xs)(J: ∀i,i<ds.length-> ∃u,xs[i]? =some u/\DigT w u (Qs ds i)):RowT w v ds:=by
  rcases h.2 with⟨rfl,e⟩|⟨g,r,o,rfl, -,G,O, -, -,I⟩
  · exact⟨none,0,fun _=> .slice none 0 0,by rw[e],fun _=>rfl,.inl (List.eq_nil_of_length_eq_zero e)⟩
  · refine⟨some ⟨g,0,none⟩,r,fun i=>(xs.getD i (.slice none 0 0)),rfl,fun e=>absurd e (by simp),.inr ⟨g,o,rfl,G,fun i hi=>?_⟩⟩
    obtain⟨u,q,D⟩:=J i hi;have e:xs.getD i (.slice none 0 0)=u:=by rw[Lg,q];rfl
    show o[i]? =some (xs.getD i (.slice none 0 0))/\DigT w (xs.getD i (.slice none 0 0)) (Qs ds i)
    rw[e];refine⟨?_,D⟩;rw[<-I,List.getElem?_take,if_pos (by omega)]at q;simpa using q
def digZ (zs:List Int)(at_ size:Nat):List Int:=(zs.drop at_).take size
def Jn (zs:List Int)(at_ size n:Nat):List (List Int):=(List.range n).map fun k=>digZ zs (at_+k*size) size
theorem yf (zs:List Int)(at_ size n:Nat):(Jn zs at_ size n).length=n:=by simp[Jn]
theorem qcr (h:k<n):Qs (Jn zs at_ size n) k=digZ zs (at_+k*size) size:=by
  unfold Qs Jn;simp[Lg,h]
theorem qfw (h:at_+size<=zs.length):(digZ zs at_ size).length=size:=by
  unfold digZ;rw[List.length_take,List.length_drop];omega
theorem qjf (h:i<size)(o:at_+size<=zs.length):qo (digZ zs at_ size) i=qo zs (at_+i):=by
  unfold digZ qo;rw[Lg,Lg,List.getElem?_take,if_pos h,List.getElem?_drop]
theorem qdk (h:k<n):k*size+size<=n*size:=by
  have:=Nat.mul_le_mul_right size (show k+1<=n by omega)
  rw[Nat.add_mul,Nat.one_mul]at this;exact this
def jR (B L p:Nat)(v:Value):Prop:= ∃q,v= .slice (some ⟨B,q,none⟩) (L - p) (L - p)/\(p<L->q=p)
def qeh (B p size:Nat)(k:Nat):List Value:=(List.range k).map fun j=> .slice (some ⟨B,p+j*size,none⟩) size size
theorem qh7 (B p size k:Nat):qeh B p size (k+1)=qeh B p size k++[.slice (some ⟨B,p+k*size,none⟩) size size]:=by
  unfold qeh;rw[List.range_succ,List.map_append];rfl
theorem qjQ (B L p:Nat)(v:Value)(n size:Nat)(w:World)(hv:jR B L p v)(hs:1<=size)(ab:size<=64)(hn:p+n*size<=L)(hL:L<=134217728):
    Calls Tryz.prog 99 #[v,.int .u64 n,.int .i64 size] w fun e w'=> ∃l r,e= .returned (.tuple #[l,r])/\w'.ownsRow w.heap.size 24 1 l n (qeh B p size n)/\jR B L (p+n*size) r/\Below w.heap.size w w':=by
  obtain⟨i0,hi,V,U,X⟩:=info_parts qba;have aa:n<=n*size:=Nat.le_mul_of_pos_right n hs;obtain⟨q,rfl,hq⟩:=hv;go_enter Tryz.func99,Tryz.ntmps99
  go_wp2_with fail
  go_loopw [0,8,10] (fun b o i wr=> ∃(k:Nat),jR B L (p+k*size) b/\i= .int .u64 k/\k<=n/\wr.ownsRow w.heap.size 24 1 o k (qeh B p size k)/\Below w.heap.size w wr) (fun _ _ i _=>n - (intOf i).toNat)
  case atStart=>exact⟨0,⟨q,by simp,by simpa using hq⟩,rfl,by omega,Wo _ _ _ _,Below.refl _ _⟩
  case round=>
    obtain⟨k,⟨q',rfl,J⟩,rfl,hk,D,O⟩:=hrel;have S:=O.size;by_cases Y:k<n
    · have hm:=qdk (size:=size) Y
      obtain rfl:q'=p+k*size:=J (by omega);have h0:(0:Int)<=(size:Int):=Int.natCast_nonneg _;have Z:=hid (qh7 B p size k);go_wp2_with (at_builtin;refine wpList_append_own _ rfl _ _ 67 rfl w.heap.size 24 i0 (.slice none 0 0) 1 24 Tryz.underlying67 hi V U X rfl (by decide) _ _ _ rfl (D.alloc _) ⟨wr.heap.size,0,none⟩ 1 1 [.slice (some ⟨B,p+k*size,none⟩) size size] rfl rfl (cell_one_new _ _ _) (by simp[Value.oneCell']) (by unfold maxLen;omega) (by omega) (by simp;omega) ?_;intro v' w' I G _)
      have e:p+(k+1)*size=p+k*size+size:=by rw[Nat.add_mul,Nat.one_mul,Nat.add_assoc]
      refine⟨⟨k+1,?_,rfl,by omega,?_,(O.alloc S _).grown G (by simp;omega) (fun k e=>(D.lt k e).1)⟩,by simp[intOf];omega⟩
      · rw[e]
        by_cases h:L - (p+k*size)=size
        · rw[if_pos h];exact⟨_,by rw[<-Nat.sub_add_eq],fun h'=>by omega⟩
        · rw[if_neg h];exact⟨_,by rw[<-Nat.sub_add_eq],fun _=>rfl⟩
      · rw[Z.out];exact I
    · obtain rfl:k=n:=by omega
      go_wp2
      exact Bp (results_tmp2 (fn:=Tryz.f99) (t:=6) (u:=7) rfl _ _ _) rfl ⟨_,_,rfl,D,⟨_,rfl,J⟩,O⟩
theorem qa1 {w:World}{D p:Nat}{l:Value}{o:List Int}(h:w.ownsRow D 24 1 l n (qeh B p size n))(I:w.heap[B]? =some (Obj.cells (o.map qp).toArray 5 (0,0)))(O:p+n*size<=o.length):RowT w l (Jn o p size n):=by
  refine qeD (B:=D) (xs:=qeh B p size n) (by rw[yf];exact h) (fun i hi=>?_);rw[yf]at hi;have J:=qdk (size:=size) hi;refine⟨.slice (some ⟨B,p+i*size,none⟩) size size,by unfold qeh;simp[hi],?_⟩;rw[qcr hi];have q:(digZ o (p+i*size) size).length=size:=qfw (by omega);refine⟨B,p+i*size,size,_,by rw[q],I,fun j G=>?_⟩;rw[q]at G;rw[qjf G (by omega)];have r:p+i*size+j<o.length:=by omega
  simp[r,qp,qo,Lg]
end Go.Proofs.YtahenngmaoellaaGreat
namespace Go.Proofs.YtahenngmaoellaaGreat
open Go.ChangeShapes Go.WideShapes Go.ChangeAt Go.RowKit Go.Joins Go.Shelf Go.Maps
open Go.Lib (hid)
variable{total k leaf b g n B base j P Q:Nat}{t:TreeV}{W w1 w':World}{T:TypeId}{fr:Nat×Nat}{v:Value}{ss:List Qd}{s:Qd}
theorem qjX {f p l:Nat}{L:List Nat}(h:RowsIs f p (lvs total l) L){A:Nat}(J:k+1<L.length)(U:A<nth L (k+1)):
    (QZ f l total L (k+1) A).to_+nth L (k+1)<=nth L k+(QZ f l total L (k+1) A).frm+1:=by
  by_cases q:nth L (k+1)=1
  · rw[ZV ⟨by omega,q⟩]
    show nth L (k+1 - 1)+nth L (k+1)<=nth L k+0+1
    rw[Nat.add_sub_cancel,q];omega
  · have D: ¬(1<=k+1/\nth L (k+1)=1):=fun h=>q h.2
    obtain⟨e,S⟩:=h.next_or J q;have o:1<=f:=by omega
    by_cases G:A=nth L (k+1) - 1
    · rw[Ys D G]
      simp only[Nat.succ_ne_zero,if_false,Nat.add_sub_cancel];have:A<=A*f:=Nat.le_mul_of_pos_right A o
      omega
    · rw[YT D G]
      simp only[Nat.succ_ne_zero,if_false];have r:=qai (m:=nth L k) (d:=f) (k:=nth L (k+1) - 1) o (by rw[<-e];omega);obtain⟨c,O⟩: ∃c,nth L (k+1)=c+2:=⟨nth L (k+1) - 2,by omega⟩;rw[O]at r⊢;have I:(c+2 - 1)*f=c*f+f:=by rw[show c+2 - 1=c+1 by omega,Nat.add_mul,Nat.one_mul]
      rw[I]at r;have:c<=c*f:=Nat.le_mul_of_pos_right c o
      rw[Nat.add_mul,Nat.one_mul];omega
structure KidFacts (t:TreeV)(total leaf k:Nat):Prop where
  le:(qu t total leaf (k+1)).frm<=Qg t.fn (t.rowsOf total) leaf k
  lt:Qg t.fn (t.rowsOf total) leaf k<(qu t total leaf (k+1)).to_
  to:((qu t total leaf (k+1)).to_:Int)<=18446744073709551615
  few:(qu t total leaf (k+1)).to_+nth (t.rowsOf total) (k+1)<=nth (t.rowsOf total) k+(qu t total leaf (k+1)).frm+1
theorem YB (X:0<=t.l/\t.l<=4294967295)(V:(total:Int)<=18446744073709551615)(h:t.spotE total 0 leaf=0):
    (∀k,k+1<(t.rowsOf total).length->KidFacts t total leaf k)/\(nth (t.rowsOf total) 0:Int)<=18446744073709551615/\1<=t.i/\t.i<=64/\t.validE=0:=by
  have I:t.err total=0:=by
    by_cases S:t.err total=0
    · exact S
    · unfold TreeV.spotE at h;rw[if_pos S]at h;exact absurd h S
  have o:leaf<nth (t.rowsOf total) 0:=by
    unfold TreeV.spotE at h;rw[if_neg (by simp[I])]at h;by_cases O:t.there total 0 leaf
    · exact O.2.2
    · rw[if_neg O]at h;omega
  obtain⟨r,Y,Z,U⟩:=Qw X I;have G:=qn U;have q:=qG I;refine⟨fun k D=>?_,zk r V q 0 (by have:=q.len;omega),by omega,?_,U⟩
  · have J:=(qaO (l:=t.ln) q D (Yc q o k (by omega))).2
    have h2:(qu t total leaf (k+1)).to_<=nth (t.rowsOf total) k:=zS r q D (by omega) (Yc q o _ D);have h3:=zk r V q k (by omega);exact⟨J.1,J.2,by omega,qjX q D (Yc q o _ D)⟩
  · rcases G.1 with e|e<;>rw[e]at G<;>simp[Zo]at G<;>omega
def chN (t:TreeV)(total leaf k:Nat):Nat:=Qg t.fn (t.rowsOf total) leaf k - (qu t total leaf (k+1)).frm
def afN (t:TreeV)(total leaf k:Nat):Nat:=(qu t total leaf (k+1)).to_ - Qg t.fn (t.rowsOf total) leaf k - 1
def QJ (t:TreeV)(total leaf:Nat):Nat->Nat
  | 0=>0
  | k+1=>QJ t total leaf k+(chN t total leaf k+afN t total leaf k)
theorem qe9 {t:TreeV}{total leaf n:Nat}(o: ∀k,k+1<n->KidFacts t total leaf k): ∀k,k<n->QJ t total leaf k+nth (t.rowsOf total) k<=nth (t.rowsOf total) 0
  | 0,_=>by simp[QJ]
  | k+1,h=>by
    have r:=qe9 o k (by omega);obtain⟨q,G,D,I⟩:=o k h;simp only[QJ,chN,afN];omega
def chI (t:TreeV)(total leaf k:Nat):Int:=(Qg t.fn (t.rowsOf total) leaf k:Int) - ((qu t total leaf (k+1)).frm:Int)
def afI (t:TreeV)(total leaf k:Nat):Int:=(afN t total leaf k:Int)
theorem qei (h:KidFacts t total leaf k):chI t total leaf k=(chN t total leaf k:Int):=by
  unfold chI chN;have:=h.le
  omega
theorem qin {w:World}{m q:Nat}(h:w.ownsRow b 131 7 (.slice (some ⟨g,0,none⟩) m q) m (Yd t total leaf m)):
    StagesIs w g m (fun j=>((qu t total leaf (j+1)).row:Int)) (fun j=>((qu t total leaf (j+1)).at_:Int)) (fun j=>((qu t total leaf (j+1)).frm:Int)) (fun j=>((qu t total leaf (j+1)).to_:Int)) (chI t total leaf) (fun j=>(qu t total leaf (j+1)).last) (fun j=>(qu t total leaf (j+1)).root):=by
  refine⟨(h.lt g (by simp[Value.ownBlock])).2,fun j o=>?_⟩;refine⟨?_,?_,?_,?_,?_,?_,?_⟩
  · rw[show j*7=7*j+0 by omega];exact(h.cellAt (7*j+0) (by omega)).trans (QE t total leaf m j 0 o (by omega))
  · rw[show j*7+1=7*j+1 by omega];exact(h.cellAt (7*j+1) (by omega)).trans (QE t total leaf m j 1 o (by omega))
  · rw[show j*7+2=7*j+2 by omega];exact(h.cellAt (7*j+2) (by omega)).trans (QE t total leaf m j 2 o (by omega))
  · rw[show j*7+3=7*j+3 by omega];exact(h.cellAt (7*j+3) (by omega)).trans (QE t total leaf m j 3 o (by omega))
  · rw[show j*7+4=7*j+4 by omega];exact(h.cellAt (7*j+4) (by omega)).trans (QE t total leaf m j 4 o (by omega))
  · rw[show j*7+5=7*j+5 by omega];exact(h.cellAt (7*j+5) (by omega)).trans (QE t total leaf m j 5 o (by omega))
  · rw[show j*7+6=7*j+6 by omega];exact(h.cellAt (7*j+6) (by omega)).trans (ZU t total leaf m j o)
theorem z8 (t:TreeV)(D:0<=t.l/\t.l<=4294967295)(total:Nat)(G:(total:Int)<=18446744073709551615)(leaf:Nat)(I:t.spotE total 0 leaf=0)(w:World):
    Calls Tryz.prog 72 #[t.val,.int .u64 total,.int .u64 leaf] w fun e w'=> ∃g o,e= .returned (.tuple #[.slice (some ⟨g,0,none⟩) ((t.rowsOf total).length - 1) o,.int .i64 0])/\
      StagesIs w' g ((t.rowsOf total).length - 1) (fun j=>((qu t total leaf (j+1)).row:Int)) (fun j=>((qu t total leaf (j+1)).at_:Int)) (fun j=>((qu t total leaf (j+1)).frm:Int)) (fun j=>((qu t total leaf (j+1)).to_:Int)) (chI t total leaf) (fun j=>(qu t total leaf (j+1)).last) (fun j=>(qu t total leaf (j+1)).root)/\Below w.heap.size w w':=by
  have F:=Yq D G I;refine(qig t total leaf F.two F.most (hid fun k r w=>?_) (hid fun k r w=>?_) (hid F.cells) (hid F.child) w).mono ?_
  · have:=zv t D total G (k:Nat) (Qg t.fn (t.rowsOf total) leaf k) w
    rw[(F.spot k r).1,(F.spot k r).2]at this;exact this
  · have:=qb7 t D total G (k:Nat) (Qg t.fn (t.rowsOf total) leaf k) (F.at_ k (by omega)) w
    rw[(F.par k r).1,(F.par k r).2]at this;exact this
  · rintro e w' ⟨v,rfl,q,J⟩
    obtain⟨g,o,rfl⟩:=ownsRow_form q (by have:=F.two;omega);exact⟨g,o,rfl,qin q,J⟩
theorem qjy (t:TreeV)(total leaf k:Nat):(qu t total leaf k).at_=Qg t.fn (t.rowsOf total) leaf k:=(Y0 _ _ _ _ _ _).2.1
theorem qbG (t:TreeV)(q:0<=t.l/\t.l<=4294967295)(total:Nat)(r:(total:Int)<=18446744073709551615)(leaf:Nat)(D:t.spotE total 0 leaf≠0)(w:World):
    Calls Tryz.prog 72 #[t.val,.int .u64 total,.int .u64 leaf] w fun e w'=>e= .returned (.tuple #[.slice none 0 0,.int .i64 (t.spotE total 0 leaf)])/\Below w.heap.size w w':=by
  have o:=zv t q total r 0 leaf;simp only[yY]at o;exact qgZ t total leaf (hid o) (by rw[bne_iff_ne];exact D) w
theorem qeH (t:TreeV)(q:0<=t.l/\t.l<=4294967295)(total:Nat)(r:(total:Int)<=18446744073709551615)(leaf:Nat)(D:t.spotE total 0 leaf≠0)(w:World):
    Calls Tryz.prog 74 #[t.val,.int .u64 total,.int .u64 leaf] w fun e w'=>e= .returned (.tuple #[.slice none 0 0,.int .i64 (t.spotE total 0 leaf)])/\Below w.heap.size w w':=by
  have o:=yQ t q total r 0 leaf;simp only[yY]at o;exact qf0 t total leaf (hid o) (by rw[bne_iff_ne];exact D) w
theorem qcg (o: ∀k,k+1<n->KidFacts t total leaf k): ∀j,j<n - 1->0<=((qu t total leaf (j+1)).frm:Int)/\((qu t total leaf (j+1)).frm:Int)<=((qu t total leaf (j+1)).to_:Int)/\((qu t total leaf (j+1)).to_:Int)<=18446744073709551615/\0<=chI t total leaf j/\0<=afI t total leaf j/\
    afI t total leaf j=((qu t total leaf (j+1)).to_:Int) - ((qu t total leaf (j+1)).frm:Int) - chI t total leaf j - 1:=by
  intro j D;obtain⟨q,G,r,I⟩:=o j (by omega);unfold chI afI afN;omega
theorem qhU (o: ∀k,k+1<n->KidFacts t total leaf k): ∀j,j<n - 1->0<=((qu t total leaf (j+1)).frm:Int)/\((qu t total leaf (j+1)).frm:Int)<=((qu t total leaf j).at_:Int)/\((qu t total leaf j).at_:Int)+1<=((qu t total leaf (j+1)).to_:Int)/\((qu t total leaf (j+1)).to_:Int)<=18446744073709551615/\
    chI t total leaf j=((qu t total leaf j).at_:Int) - ((qu t total leaf (j+1)).frm:Int)/\afI t total leaf j=((qu t total leaf (j+1)).to_:Int) - ((qu t total leaf j).at_:Int) - 1:=by
  intro j D;obtain⟨q,G,r,I⟩:=o j (by omega);rw[qjy];unfold chI afI afN;omega
theorem qiQ (t:TreeV)(D:0<=t.l/\t.l<=4294967295)(total leaf:Nat)(q:(total:Int)<=18446744073709551615)(o:(leaf:Int)<=18446744073709551615)(u:Value)(ss:List Qd)(w:World)(V:StepsAt w u ss)(J:QX 1048576 ss)(G:t.spotE total 0 leaf=0)
    (U:zd t.i ((t.rowsOf total).length - 1) (chI t total leaf) (afI t total leaf) ss):
    Calls Tryz.prog 56 #[t.val,.agg #[.int .u64 total,.int .u64 leaf,u]] w fun r w'=> ∃v,r= .returned (.tuple #[v,.int .i64 0])/\w'.ownsRow w.heap.size 5 1 v (ye total leaf ss ss.length).length ((ye total leaf ss ss.length).map qp)/\Below w.heap.size w w':=by
  have F:=Yq D q G;obtain⟨O,h0,Y,Z, -⟩:=YB D q G;have f2:=F.two;have f3:=F.most;refine(qg6 t total leaf q o u ss w V J ((t.rowsOf total).length - 1) (by omega) (by omega) ⟨Y,Z⟩ _ _ _ _ (chI t total leaf) (afI t total leaf) _ _ (hid (z8 t D total q leaf G)) (hid (qcg O))).mono ?_;rintro r w' ⟨v,e,rfl,h,X⟩
  rcases h with⟨I,rfl,rfl⟩|⟨I,rfl,S⟩
  · exact absurd U I
  · exact⟨v,rfl,S,X⟩
attribute [local go_sem] Oper.semAt_some
theorem Yo {a0 a1 a2:Value}(h:W.heap[b]? =some (Obj.cells #[a0,a1,a2] T fr))(q o r:Value):
    (((W.setCell ⟨b,0,none⟩ q).setCell ⟨b,1,none⟩ o).setCell ⟨b,2,none⟩ r).heap[b]? =some (Obj.cells #[q,o,r] T fr):=
  block_setCell (block_setCell (block_setCell h q) o) r
theorem Yp {a:World}(h:Below B a W)(o:B<=b)(r q D:Value):
    Below B a (((W.setCell ⟨b,0,none⟩ r).setCell ⟨b,1,none⟩ q).setCell ⟨b,2,none⟩ D):=
  ((h.setCell (p:=⟨b,0,none⟩) o r).setCell (p:=⟨b,1,none⟩) o q).setCell (p:=⟨b,2,none⟩) o D
theorem qgp {c:Nat}(h:c≠b)(q o r:Value):(((W.setCell ⟨b,0,none⟩ q).setCell ⟨b,1,none⟩ o).setCell ⟨b,2,none⟩ r).heap[c]? =W.heap[c]? :=
  (Below.heap_setCell _ _ _ _ h).trans ((Below.heap_setCell _ _ _ _ h).trans (Below.heap_setCell _ _ _ _ h))
theorem qgw {G:List TypeId}{c:Array Value}(D:W.heap[b]? =some (Obj.cells c T fr))(r:T∉G)(o q I:Value):
    pKeeps G W (((W.setCell ⟨b,0,none⟩ o).setCell ⟨b,1,none⟩ q).setCell ⟨b,2,none⟩ I):=
  ((zh D r o).trans (zh (block_setCell D o) r q)).trans (zh (block_setCell (block_setCell D o) q) r I)
theorem yr {cs:Array Value}(h:W.heap[b]? =some (Obj.cells cs T (0,0))):(∀o,W.cell? ⟨b,o,none⟩=cs[o]?)/\(∀o,W.frozen? ⟨b,o,none⟩=false):=
  ⟨fun o=>qd h o,fun o=>by simp[World.frozen?,h]⟩
theorem yT {P:Program}{fn:Func}{tmps:Array Value}{q r G e:Value}
    (J:fn.results= #[.cell 4 55,.tmp 5]) (S:tmps[4]?.getD undef= .pointer (some ⟨b,0,none⟩)) (O:tmps[5]?.getD undef=e)
    (o:W.heap[b]? =some (Obj.cells #[q,r,G] T fr)) (I:P=Tryz.prog):
    (results fn tmps).run P W= .ok (.tuple #[.agg #[q,r,G],e]) W:=by
  subst I;have D:=qd o 0;have c1:=qd o 1;have c2:=qd o 2;simp only[List.getElem?_toArray,List.getElem?_cons_zero,List.getElem?_cons_succ]at D c1 c2;simp[results,J,S,O,go_sem,D,c1,c2]
def Q3 (total leaf:Int)(v:Value):Value:= .agg #[.int .u64 total,.int .u64 leaf,v]
theorem qa9 (zs:List Int)(v:Value)(at_:Nat)(x:Nat)(r:qO zs at_ 8=(x:Int))(w:World)(h:Holds8 w v zs)(D: ∀z∈zs,0<=z/\z<=255)(o:at_+8<=zs.length)(q:zs.length<=4294967296):
    Calls Tryz.prog 98 #[v,.int .i64 at_] w fun e w'=>e= .returned (.tuple #[.int .u64 x,.int .i64 0])/\w'=w:=by
  have H:=hid (qdm zs v at_ w h D o q);rw[r]at H;clear h;go_enter Tryz.func98,Tryz.ntmps98
  go_wp2_with fail
  refine H.out.mono ?_;rintro e w1 ⟨rfl,rfl⟩;go_wp2
  exact Bp (results_tmp2 (fn:=Tryz.f98) (t:=4) (u:=5) rfl _ _ _) rfl ⟨rfl,rfl⟩
theorem qbI {w:World}{c1 c2:Array Value}{q o:TypeId}(h:Below ((w.alloc (Obj.cells c1 q)).alloc (Obj.cells c2 o)).heap.size ((w.alloc (Obj.cells c1 q)).alloc (Obj.cells c2 o)) w1):
    w1.heap[w.heap.size]? =some (Obj.cells c1 q (0,0))/\w1.heap[w.heap.size+1]? =some (Obj.cells c2 o (0,0))/\Below w.heap.size w w1/\w.heap.size+2<=w1.heap.size:=by
  have r:=h.size;simp at r
  refine⟨?_,?_,qs _ (Below.trans (Br.alloc Nl _) (h.mono (by simp))),by omega⟩
  · rw[h.block _ (by simp;omega)]
    exact(Bh _ _ _ (by simp)).trans (Wn _ _)
  · rw[h.block _ (by simp)]
    exact qB _ _ (by simp)
theorem qdF (t:TreeV)(v:Value)(V:(t.validE != 0)=true)(w:World):
    Calls Tryz.prog 57 #[t.val,v] w fun r w'=>r= .returned (.tuple #[Q3 0 0 (.slice none 0 0),.int .i64 t.validE])/\Below w.heap.size w w':=by
  have G:=hid (YR t);unfold TreeV.val Q3 at*;go_enter Tryz.func57,Tryz.ntmps57
  go_wp2_with fail
  refine(G.out _).mono ?_;rintro r w1 ⟨rfl,o⟩;obtain⟨I,q,D,O⟩:=qbI o;obtain⟨S,U⟩:=yr q;have J:=hid q;clear o I q;go_wp2
  exact Bp (yT rfl rfl rfl (b:=w.heap.size+1) (Yo J.out _ _ _) rfl) rfl ⟨rfl,Yp D (by omega) _ _ _⟩
theorem qdG (t:TreeV)(a:Option Addr)(n G:Nat)(S:t.validE=0)(V:n<16)(w:World):
    Calls Tryz.prog 57 #[t.val,.slice a n G] w fun r w'=>r= .returned (.tuple #[Q3 0 0 (.slice none 0 0),.int .i64 3])/\Below w.heap.size w w':=by
  have D:=hid (YR t);rw[S]at D;unfold TreeV.val Q3 at*;go_enter Tryz.func57,Tryz.ntmps57
  go_wp2_with fail
  refine(D.out _).mono ?_;rintro r w1 ⟨rfl,o⟩;obtain⟨J,q,I,U⟩:=qbI o;obtain⟨X,Y⟩:=yr q;have O:=hid q;clear o J q;go_wp2
  exact Bp (yT rfl rfl rfl (b:=w.heap.size+1) (Yo O.out _ _ _) rfl) rfl ⟨rfl,Yp I (by omega) _ _ _⟩
theorem qh4 (zs:List Int)(p n:Nat):digZ (zs.drop 16) p n=digZ zs (16+p) n:=by
  unfold digZ;rw[List.drop_drop]
theorem qdv (zs:List Int)(p i n:Nat):Jn (zs.drop 16) p i n=Jn zs (16+p) i n:=by
  unfold Jn;refine List.map_congr_left fun k _=>?_
  rw[qh4,Nat.add_assoc]
def StepsT (w:World)(base:Nat)(v:Value)(ss:List Qd):Prop:=
  ∃xs,w.ownsRow base 69 2 v ss.length xs/\ ∀j,j<ss.length-> ∃u u',xs[j*2]? =some u/\xs[j*2+1]? =some u'/\RowT w u (qy ss j).1/\RowT w u' (qy ss j).2
theorem StepsT.at {w:World}(h:StepsT w base v ss):StepsAt w v ss:=by
  obtain⟨xs,o,U⟩:=h;rcases o.2 with⟨rfl,e⟩|⟨g,G,X,rfl, -,r,Y, -,Z,I⟩
  · exact⟨none,0,fun _=> .slice none 0 0,fun _=> .slice none 0 0,by rw[e],fun _=>rfl,.inl (List.eq_nil_of_length_eq_zero e)⟩
  · refine⟨some ⟨g,0,none⟩,G,fun i=>xs.getD (i*2) (.slice none 0 0),fun i=>xs.getD (i*2+1) (.slice none 0 0),rfl,fun e=>absurd e (by simp),.inr ⟨g,0,rfl,(Ai r).1,fun i hi=>?_⟩⟩
    obtain⟨u,u',D,q,J,V⟩:=U i hi;have O:xs.getD (i*2) (.slice none 0 0)=u:=by rw[Lg,D];rfl
    have S:xs.getD (i*2+1) (.slice none 0 0)=u':=by rw[Lg,q];rfl
    dsimp only;rw[O,S];refine⟨?_,?_,J.rows,V.rows⟩
    · rw[qd r,Nat.zero_add]
      rw[<-I,List.getElem?_take,if_pos (by omega)]at D;simpa using D
    · rw[qd r,Nat.zero_add]
      rw[<-I,List.getElem?_take,if_pos (by omega)]at q;simpa using q
theorem qdf (h:j<ss.length):qy (ss++[s]) j=qy ss j:=by
  unfold qy;rw[Lg,Lg,List.getElem?_append_left h]
theorem qca :qy (ss++[s]) ss.length=s:=by
  unfold qy;rw[Lg,List.getElem?_append_right Nl,Nat.sub_self];rfl
theorem qev {w:World}{v':Value}{xs:List Value}{u u':Value}(V: ∀j,j<ss.length-> ∃u u',xs[j*2]? =some u/\xs[j*2+1]? =some u'/\RowT w u (qy ss j).1/\RowT w u' (qy ss j).2)
    (r:xs.length=ss.length*2) (q:w'.ownsRow base 69 2 v' (ss.length+1) (xs++[u,u'])) (D:pKeeps [5,24] w w') (S:RowT w' u s.1) (J:RowT w' u' s.2):StepsT w' base v' (ss++[s]):=by
  have o:(ss++[s]).length=ss.length+1:=by simp
  refine⟨xs++[u,u'],by rw[o];exact q,fun j U=>?_⟩;rw[o]at U;by_cases e:j=ss.length
  · rw[e]
    refine⟨u,u',?_,?_,by rw[qca];exact S,by rw[qca];exact J⟩
    · rw[List.getElem?_append_right (by omega),r,Nat.sub_self];rfl
    · rw[List.getElem?_append_right (by omega),r,show ss.length*2+1 - ss.length*2=1 by omega];rfl
  · obtain⟨a,b,X,O,I,G⟩:=V j (by omega)
    refine⟨a,b,?_,?_,by rw[qdf (by omega)];exact I.keep D (by decide) (by decide),by rw[qdf (by omega)];exact G.keep D (by decide) (by decide)⟩
    · rw[List.getElem?_append_left (by omega)];exact X
    · rw[List.getElem?_append_left (by omega)];exact O
theorem StepsT.move {w:World}(h:StepsT w base v ss)(q:pKeeps [5,24] w w')(r: ∀g,base<=g->g<w.heap.size->w'.heap[g]? =w.heap[g]?):StepsT w' base v ss:=by
  obtain⟨xs,o,O⟩:=h;refine⟨xs,yN o r,fun j J=>?_⟩;obtain⟨a,b,S,I,G,D⟩:=O j J;exact⟨a,b,S,I,G.keep q (by decide) (by decide),D.keep q (by decide) (by decide)⟩
structure ButP (P Q:Nat)(w w':World):Prop where
  os:w'.os=w.os
  tape:w'.tape=w.tape
  output:w'.output=w.output
  size:w.heap.size<=w'.heap.size
  block: ∀b,b<Q->b≠P->w'.heap[b]? =w.heap[b]?
theorem ButP.refl (P Q:Nat)(w:World):ButP P Q w w:=⟨rfl,rfl,rfl,Nat.le_refl _,fun _ _ _=>rfl⟩
theorem ButP.trans {w r:World}(h:ButP P Q w w1)(o:ButP P Q w1 r):ButP P Q w r:=
  ⟨o.os.trans h.os,o.tape.trans h.tape,o.output.trans h.output,Nat.le_trans h.size o.size,fun b D q=>(o.block b D q).trans (h.block b D q)⟩
theorem JP {w:World}(h:Below B w w')(o:Q<=B):ButP P Q w w':=
  ⟨h.os,h.tape,h.output,h.size,fun b q _=>h.block b (by omega)⟩
theorem qcu (w:World){i:Nat}(v:Value)(h:b=P\/Q<=b):ButP P Q w (w.setCell ⟨b,i,none⟩ v):=
  ⟨rfl,rfl,rfl,by simp,fun c q o=>Below.heap_setCell _ _ _ _ (by rcases h with rfl|h;exact o;(show c≠b;omega))⟩
theorem qgU {w:World}{row:Option Nat}(h:w.grownBy w' row)(q:Q<=w.heap.size)(o: ∀g,row=some g->Q<=g):ButP P Q w w':=
  ⟨h.os,h.tape,h.output,h.size,fun b r _=>h.block b (by omega) (fun e=>by have:=o b e.symm;omega)⟩
theorem ButP.below {w:World}(h:ButP P Q w w')(o:P<=Q):Below P w w':=
  ⟨h.os,h.tape,h.output,h.size,fun b q=>h.block b (by omega) (by omega)⟩
theorem StageAt.same {w:World}{R A F T q:Nat->Int}{la r:Nat->Bool}(h:StageAt w g R A F T q la r j)(e:w'.heap[g]? =w.heap[g]?):StageAt w' g R A F T q la r j:=by
  obtain⟨O,S,G,D,U,J,I⟩:=h;have k: ∀o,w'.cell? ⟨g,o,none⟩=w.cell? ⟨g,o,none⟩:=fun o=>World.cell?_of_block e
  exact⟨(k _).trans O,(k _).trans S,(k _).trans G,(k _).trans D,(k _).trans U,(k _).trans J,(k _).trans I⟩
theorem qgO (W:World)(a0 a1:Value)(T:TypeId)(n:Nat)(o:n=W.heap.size): ∀j u,[a0,a1][j]? =some u->(W.alloc (.cells #[a0,a1] T)).cell? (Addr.add ⟨n,0,none⟩ j)=some u:=by
  subst o;intro j u q;have h:=qd (Wn W (.cells #[a0,a1] T)) j;rw[show Addr.add ⟨W.heap.size,0,none⟩ j=⟨W.heap.size,j,none⟩ by first|(simp[Addr.add];done)|(simp[Addr.add];omega),h];rw[<-Array.getElem?_toList];exact q
theorem qdp:(Tryz.prog.info? 69).map (fun i=>(i.zero,i.size,i.bytes))=some (some (.agg #[.slice none 0 0,.slice none 0 0]),2,48):=by kernel_rfl
def unL (t:TreeV)(total leaf i:Nat)(zs:List Int):Nat->List Qd
  | 0=>[]
  | k+1=>unL t total leaf i zs k++[(Jn zs (16+QJ t total leaf k*i) i (chN t total leaf k),Jn zs (16+QJ t total leaf k*i+chN t total leaf k*i) i (afN t total leaf k))]
def nN (t:TreeV)(total leaf k:Nat):Nat:=chN t total leaf k+afN t total leaf k
def Yl (t:TreeV)(total leaf i k:Nat):Nat:=QJ t total leaf k*i
theorem yg (t:TreeV)(total leaf i:Nat)(zs:List Int): ∀k,(unL t total leaf i zs k).length=k
  | 0=>rfl
  | k+1=>by simp[unL,yg t total leaf i zs k]
theorem qcb (t:TreeV)(total leaf:Nat)(h:j<=k):QJ t total leaf j<=QJ t total leaf k:=by
  induction k with
  | zero=>
    obtain rfl:j=0:=by omega
    exact Nat.le_refl _
  | succ k ih=>
    by_cases e:j=k+1
    · rw[e];exact Nat.le_refl _
    · have:=ih (by omega)
      simp only[QJ];omega
theorem qcc (t:TreeV)(total leaf i k:Nat):Yl t total leaf i (k+1)=Yl t total leaf i k+nN t total leaf k*i:=by
  unfold Yl nN;simp only[QJ];rw[Nat.add_mul]
theorem qcd (t:TreeV)(total leaf i:Nat)(h:j<=k):Yl t total leaf i j<=Yl t total leaf i k:=Nat.mul_le_mul_right i (qcb t total leaf h)
theorem qhq (t:TreeV)(aD:0<=t.l/\t.l<=4294967295)(v:Value)(zs:List Int)(total leaf i L:Nat)(ci:t.validE=0)(bb:t.i=(i:Int))(bt:1<=i)(bs:i<=64)(ak:(total:Int)<=18446744073709551615)(bS:qO zs 0 8=(total:Int))(bD:qO zs 8 8=(leaf:Int))(hz: ∀z∈zs,0<=z/\z<=255)(hL:zs.length=L+16)(hm:L<=134217728)(m:Nat)(ay:(t.rowsOf total).length - 1=m)(O:World->Value->Int->Prop)
    (P1:Hid (t.spotE total 0 leaf≠0-> ∀w',O w' (Q3 0 0 (.slice none 0 0)) (t.spotE total 0 leaf)))
    (P3:Hid (t.spotE total 0 leaf=0->L<QJ t total leaf m*i-> ∀w',O w' (Q3 0 0 (.slice none 0 0)) 3))
    (P9:Hid (t.spotE total 0 leaf=0->QJ t total leaf m*i<L-> ∀w',O w' (Q3 0 0 (.slice none 0 0)) 9))
    (P0:Hid (t.spotE total 0 leaf=0->QJ t total leaf m*i=L-> ∀w' u,StepsAt w' u (unL t total leaf i zs m)->O w' (Q3 total leaf u) 0))
    (w:World) (hv:Holds8 w v zs) (aZ: ∀a n c,v= .slice a n c->n<=c):
    Calls Tryz.prog 57 #[t.val,v] w fun r w'=> ∃p e,r= .returned (.tuple #[p,.int .i64 e])/\O w' p e/\Below w.heap.size w w':=by
  have bi: ∀(B L p:Nat) (v:Value) (n:Nat) (w:World),jR B L p v->p+n*i<=L->L<=134217728->Calls Tryz.prog 99 #[v,.int .u64 n,.int .i64 t.i] w fun e w'=> ∃l r,e= .returned (.tuple #[l,r])/\w'.ownsRow w.heap.size 24 1 l n (qeh B p i n)/\jR B L (p+n*i) r/\Below w.heap.size w w':=by
    intro B L p v n w h1 h2 h3;rw[bb];exact qjQ B L p v n i w h1 bt bs h2 h3
  have aP:=hid bi;clear bi;have cu:=hid bb;have bz:1<=t.i:=by omega
  have dH:t.i<=64:=by omega
  clear bb;have cE:=hid bS;have cr:=hid bD;clear bS bD;have HV:=hid (YR t);rw[ci]at HV;have HH:=hid hv;have bw:=hid (qbG t aD total ak leaf);have aV:=z8 t aD total ak leaf;rw[ay]at aV;have bH:=hid aV;clear aV;have bF:=hid (YB aD ak (leaf:=leaf));have b5:=hid (Yq aD ak (leaf:=leaf));obtain⟨a,dr,rfl,az⟩:=hv;have dx:=aZ _ _ _ rfl;clear aZ;have HL:=hid hL;have di:(zs.length:Int) - 16=(L:Int):=by omega
  have b9:16<=zs.length:=by omega
  have dp:zs.length<=134217744:=by omega
  have aW:=hid ay;clear hL ay;unfold TreeV.val Q3 at*;go_enter Tryz.func57,Tryz.ntmps57
  go_wp2_with fail
  refine(HV.out _).mono ?_;rintro r w1 ⟨rfl,bL⟩;obtain⟨hT,hR,aL,dF⟩:=qbI bL;have HT:=hid hT;have HR:=hid hR;obtain⟨cR,fR⟩:=yr hR;obtain⟨cT,fT⟩:=yr hT;clear bL hT hR;have k1:w.heap.size<w1.heap.size:=by omega
  have bG:w.heap.size+1<w1.heap.size:=by omega
  go_wp2_with fail
  refine(qa9 zs _ 0 total cE.out _ (qU HH.out (aL.alloc (by omega) _)) hz (by have:=HL.out;omega) (by have:=HL.out;omega)).mono ?_;rintro r w2 ⟨rfl,rfl⟩;go_wp2_with fail
  refine(qa9 zs _ 8 leaf cr.out _ (qU HH.out (aL.alloc (by omega) _)) hz (by have:=HL.out;omega) (by have:=HL.out;omega)).mono ?_;rintro r w2 ⟨rfl,rfl⟩;go_wp2_with fail
  by_cases he:t.spotE total 0 leaf=0
  · refine(bH.out he _).mono ?_;rintro r w2 ⟨g,gc,rfl,be,ah⟩
    have ad:Below w1.heap.size w1 w2:=qs _ ah;have dG:=ad.size;have a7:w2.heap[w1.heap.size]? =some (Obj.cells #[.int .u64 total,.int .u64 leaf,.slice none 0 0] 55 (0,0)):=(ah.block _ (by simp)).trans (Wn _ _);have bC:=(ad.block _ k1).trans HT.out;have ag:=(ad.block _ bG).trans HR.out;have cY:=(Ai a7).1;have df:Below w.heap.size w w2:=aL.trans (ad.mono (by omega));have c7:=hid a7;have bY:=hid bC;have aS:=hid ag;have bk:=hid be;obtain⟨hk,h0, -⟩:=bF.out he;have F:=b5.out he;have m1:=F.two;have m2:=F.most;have HK:=hid hk;have HE:=hid he;clear ah be a7 bC ag he hk F cR fR cT fT HV bw bH bF b5;have cC:=aW.out;have dq:1<=m:=by omega
    have dh:m<=255:=by omega
    clear cC m1 m2;have bN:=bk.out.1;generalize w1.heap.size=P at*;have bZ:w.heap.size<w2.heap.size:=by omega
    have cj:w.heap.size+1<w2.heap.size:=by omega
    go_wp2_with fail
    go_loopw [61,11] (fun j o wr=> ∃(k:Nat),j= .int .i64 k/\o= .int .u64 ((Yl t total leaf i k:Nat):Int)/\k<=m/\Yl t total leaf i k<=L/\Below w2.heap.size w2 wr) (fun j _ _=>m - (intOf j).toNat)
    case atStart=>exact⟨0,rfl,by simp[QJ,Yl],by omega,by simp[QJ,Yl],Below.refl _ _⟩
    case round=>
      obtain⟨k,rfl,rfl,hk,bp,hb⟩:=hrel;have cK:=hb.size;have c9:w.heap.size<wr.heap.size:=by omega
      have aw:w.heap.size+1<wr.heap.size:=by omega
      have bd:=(hb.block _ cj).trans aS.out;have aH:=hid bd;obtain⟨cT,fT⟩:=yr ((hb.block _ bZ).trans bY.out);obtain⟨cR,fR⟩:=yr bd;have aa:Below w.heap.size w wr:=df.trans (hb.mono (by omega));clear bd;by_cases cO:k<m
      · obtain⟨c0,c1,c2,c3,c4,c5,c6⟩:=(bk.out.2 k cO).below bN hb
        dsimp only at c0 c1 c2 c3 c4 c5;obtain⟨h1,h2,h3,h4⟩:=HK.out k (by have:=aW.out;omega);have hn:((qu t total leaf (k+1)).to_:Int) - ((qu t total leaf (k+1)).frm:Int) - 1=((nN t total leaf k:Nat):Int):=by
          unfold nN chN afN;omega
        have D:=qcc t total leaf i k;have G:=qcd t total leaf i (show k+1<=m by omega);have am:L<Yl t total leaf i m-> ∀w',O w' (.agg #[.int .u64 0,.int .u64 0,.slice none 0 0]) 3:=fun h=>P3.out HE.out h
        have a5:=hid am;clear am h1 h2;have h5:0<=((qu t total leaf (k+1)).frm:Int):=Int.natCast_nonneg _;generalize ((qu t total leaf (k+1)).row:Int)=z0 at*;generalize ((qu t total leaf (k+1)).at_:Int)=z1 at*;generalize ((qu t total leaf (k+1)).frm:Int)=z2 at*;generalize ((qu t total leaf (k+1)).to_:Int)=z3 at*;generalize (qu t total leaf (k+1)).last=z4 at*;generalize (qu t total leaf (k+1)).root=z5 at*;generalize chI t total leaf k=z6 at*;obtain⟨nn,aB⟩:=Ex (nN t total leaf k);obtain⟨nb,bW⟩:=Ex (Yl t total leaf i k);obtain⟨bq,ax⟩:=Ex (Yl t total leaf i (k+1));obtain⟨bP,aT⟩:=Ex (Yl t total leaf i m);rw[aB]at hn D;rw[bW]at bp D⊢;rw[ax]at D G;rw[aT]at G a5;have bE:=hid ax;clear aB bW ax aT h4;by_cases hA:L<nn
        · have e3:nn<=nn*i:=Nat.le_mul_of_pos_right _ bt
          have au:=hid (show L<bP by omega);clear e3 D G;go_wp2
          exact Bp (yT rfl rfl rfl (b:=w.heap.size+1) ((Bh _ _ _ (by simpa using aw)).trans (Yo aH.out _ _ _)) rfl) rfl ⟨_,_,rfl,a5.out au.out _,(Yp aa (by omega) _ _ _).alloc (by simp;omega) _⟩
        · have cM:nn*i<=134217728*64:=Nat.mul_le_mul (by omega) bs
          have aK:(nn:Int)*t.i=((nn*i:Nat):Int):=by rw[cu.out,Int.natCast_mul]
          have aE:0<=(nn:Int)*t.i:=by rw[aK];omega
          have ap:(nn:Int)*t.i<=8589934592:=by rw[aK];omega
          have J:(nb:Int)+(nn:Int)*t.i=(bq:Int):=by rw[aK,D];omega
          clear aK cM D;by_cases hB:(L:Int)<(bq:Int)
          · have au:=hid (show L<bP by omega)
            have cA:(L:Int)<(nb:Int)+(nn:Int)*t.i:=by rw[J];exact hB
            clear G hB J;go_wp2
            exact Bp (yT rfl rfl rfl (b:=w.heap.size+1) ((Bh _ _ _ (by simpa using aw)).trans (Yo aH.out _ _ _)) rfl) rfl ⟨_,_,rfl,a5.out au.out _,(Yp aa (by omega) _ _ _).alloc (by simp;omega) _⟩
          · have cA: ¬(L:Int)<(nb:Int)+(nn:Int)*t.i:=by rw[J];exact hB
            have cl:=hid J;clear J G;go_wp2
            exact⟨⟨k+1,rfl,by rw[bE.out,cl.out],by omega,by rw[bE.out];omega,hb.alloc cK _⟩,by simp[intOf];omega⟩
      · obtain rfl:k=m:=by omega
        by_cases hC:Yl t total leaf i k<L
        · have HC:=hid hC
          go_wp2
          exact Bp (yT rfl rfl rfl (b:=w.heap.size+1) (Yo aH.out _ _ _) rfl) rfl ⟨_,_,rfl,P9.out HE.out HC.out _,Yp aa (by omega) _ _ _⟩
        · have b7:Yl t total leaf i k=L:=by omega
          obtain⟨i0,bQ,cH,aM,cD⟩:=info_parts Qu;have dg:(Instr.makeSlice 24 (.int .u64 L) (.int .u64 L)).run Tryz.prog wr= .ok (.slice (some ⟨wr.heap.size,0,none⟩) L L) (wr.alloc (.cells (List.replicate L (.int .u8 0)).toArray 5)):=by
            have h:=run_make (P:=Tryz.prog) wr 24 5 i0 (.int .u8 0) Tryz.underlying24 bQ cH .u64 .u64 L L (by omega) (Int.le_refl _) (by rw[cD];omega) (by omega);rw[aM,Int.toNat_natCast,Nat.mul_one]at h;have e:madeCells (Value.int .u8 0).cells L=(List.replicate L (.int .u8 0)).toArray:=by
              have:=toList_madeCells_one (.int .u8 0) L
              rw[<-this];rfl
            rw[e]at h;exact h
          obtain⟨ab,ao,rfl,cz,bI⟩:=az.resolve_left (fun e=>by rw[e]at b9;simp at b9);have cv:=hid bI;clear az bI;have ac:(zs.drop 16).length=L:=by rw[List.length_drop];have:=HL.out;omega
          have bx: ∀j u,((zs.drop 16).map qp)[j]? =some u->(wr.alloc (.cells (List.replicate L (.int .u8 0)).toArray 5)).cell? (Addr.add ⟨ab,ao+16,none⟩ j)=some u:=by
            intro j u hj;obtain⟨bz,rfl⟩:=List.getElem?_eq_some_iff.1 hj;rw[List.length_map,ac]at bz;have aM:=cv.out (16+j) (by have:=HL.out;omega);rw[Go.WideShapes.add_plain,((aa.alloc (by omega) _).cell (p:=⟨ab,_,none⟩) cz),Nat.add_assoc,aM];simp[qp,qo,Lg]
            have:16+j<zs.length:=by have:=HL.out;omega
            simp[this]
          have cJ:=hid bx;have bh:splice (List.replicate L (Value.int .u8 0)) 0 ((zs.drop 16).map qp)=(zs.drop 16).map qp:=by
            have bO:((zs.drop 16).map qp).length=L:=by rw[List.length_map,ac]
            generalize (zs.drop 16).map qp=cs at bO⊢;unfold splice;rw[bO];simp
          have cf:=hid bh;clear bx bh;go_wp2_with ((with_reducible show wpList _ _ _ (Oper.mk (some 105) _ _ _ _ _::_) _ _);refine wpList_copy_splice rfl _ _ _ _ rfl 5 Tryz.underlying24 (by rw[bQ];simp[aM]) _ _ _ _ _ _ rfl rfl wr.heap.size 0 (List.replicate L (.int .u8 0)) 5 (Wn _ _) ((zs.drop 16).map qp) (by rw[List.length_map,ac];have:=HL.out;show _=min _ _;omega) (by intro h;rw[List.length_map,ac]at h;refine⟨rfl,⟨ab,ao+16,none⟩,?_,cJ.out⟩;first|rfl|(rw[if_neg (by have:=HL.out;omega)])|(exfalso;have:=HL.out;omega)) (by rw[List.length_map,ac];simp) (by intro u hu;obtain⟨z, -,rfl⟩:=List.mem_map.1 hu;rfl) wr.heap.size wr (Br.alloc Nl _) Nl ?_;intro Z a6 af)
          all_goals
            rw[cf.out]at a6;have b4:=a6.out;have dn:=(Ai b4).1;have dj:=af.size;have bl:=(af.block _ (by omega)).trans ((hb.block P cY).trans c7.out);have bV:=(af.block _ c9).trans ((hb.block _ bZ).trans bY.out);have aQ:=(af.block _ aw).trans aH.out;have ch:Below w.heap.size w Z:=aa.trans (af.mono (by omega));have ar: ∀j,j<k->StageAt Z g _ _ _ _ _ _ _ j:=fun j hj=>((bk.out.2 j hj).below bN hb).below (by omega) af
            have co:g≠P:=by
              intro e;have h1:=(ar 0 (by omega)).1;rw[e,qd bl]at h1;simp at h1
            have dl:P<wr.heap.size:=by omega
            have cb:=hid ar;have cN:=hid bV;have cg:=hid aQ;have dd:=hid bl;have br:=hid b7;clear b4 bl bV aQ ar cT fT cR fR dg b7;have dz:g<Z.heap.size:=by omega
            generalize wr.heap.size=N at*;go_loopw [108,15] (fun jj o wr=> ∃(j:Nat) (v:Value),jj= .int .i64 j/\j<=k/\jR N L (Yl t total leaf i j) o/\ButP P Z.heap.size Z wr/\wr.heap[P]? =some (Obj.cells #[.int .u64 total,.int .u64 leaf,v] 55 (0,0))/\Hid (StepsT wr Z.heap.size v (unL t total leaf i zs j))) (fun jj _ _=>k - (intOf jj).toNat)
            case atStart=>exact⟨0,_,rfl,by omega,⟨0,by simp[Yl,QJ],fun _=>by simp[Yl,QJ]⟩,ButP.refl _ _ _,dd.out,hid ⟨[],Wo _ _ _ _,fun j h=>absurd h (Nat.not_lt_zero _)⟩⟩
            case round=>
              obtain⟨j,v,rfl,hj,⟨q,rfl,hq⟩,ae,bj,aN⟩:=hrel;have cW:=ae.size;have a9:=(ae.block _ (by omega) (by omega)).trans cN.out;have aO:=(ae.block _ (by omega) (by omega)).trans cg.out;have bX:=(ae.block N (by omega) (by omega)).trans a6.out;have cF:=ae.block g (by omega) co;have bT:=hid aO;have ct:=hid bX;obtain⟨cT,fT⟩:=yr a9;obtain⟨cR,fR⟩:=yr aO;obtain⟨cP,fP⟩:=yr bj;have cI:=hid bj;have da:=hid a9;have q1:w.heap.size<wr.heap.size:=by omega
              have q2:P<wr.heap.size:=by omega
              have q3:w.heap.size+1<wr.heap.size:=by omega
              clear a9 aO bX bj;by_cases cL:j<k
              · obtain⟨c0,c1,c2,c3,c4,c5,c6⟩:=(cb.out j cL).same cF
                dsimp only at c0 c1 c2 c3 c4 c5;obtain⟨h1,h2,h3,h4⟩:=HK.out j (by have:=aW.out;omega);have b6:=qei (t:=t) (total:=total) (leaf:=leaf) (k:=j) ⟨h1,h2,h3,h4⟩;rw[b6]at c6;have dv:((qu t total leaf (j+1)).to_:Int) - ((qu t total leaf (j+1)).frm:Int) - ((chN t total leaf j:Nat):Int) - 1=((afN t total leaf j:Nat):Int):=by
                  unfold chN afN;omega
                have dk:0<=((qu t total leaf (j+1)).frm:Int):=Int.natCast_nonneg _;have D:=qcc t total leaf i j;have G:=qcd t total leaf i (show j+1<=k by omega);have aB:nN t total leaf j*i=chN t total leaf j*i+afN t total leaf j*i:=by unfold nN;rw[Nat.add_mul]
                have bc:unL t total leaf i zs (j+1)=unL t total leaf i zs j++[(Jn (zs.drop 16) (Yl t total leaf i j) i (chN t total leaf j),Jn (zs.drop 16) (Yl t total leaf i j+chN t total leaf j*i) i (afN t total leaf j))]:=by
                  rw[qdv,qdv,<-Nat.add_assoc];rfl
                have bg:=hid bc;have hE:=br.out;clear h1 h2 h4 b6 bc;generalize ((qu t total leaf (j+1)).row:Int)=z0 at*;generalize ((qu t total leaf (j+1)).at_:Int)=z1 at*;generalize ((qu t total leaf (j+1)).frm:Int)=z2 at*;generalize ((qu t total leaf (j+1)).to_:Int)=z3 at*;generalize (qu t total leaf (j+1)).last=z4 at*;generalize (qu t total leaf (j+1)).root=z5 at*;generalize Yl t total leaf i k=nk at*;obtain⟨p0,aE⟩:=Ex (Yl t total leaf i j);obtain⟨p1,ap⟩:=Ex (Yl t total leaf i (j+1));rw[aE,ap]at D;rw[ap]at G;rw[aE]at hq bg⊢;have cG:=hid ap;clear aE ap;generalize chN t total leaf j=c at*;generalize afN t total leaf j=d at*;have bm:jR N L p0 (.slice (some ⟨N,q,none⟩) (L - p0) (L - p0)):=⟨q,rfl,hq⟩;have b3:=hid (show p0+c*i<=L by omega);have bv:=hid (show p0+c*i+d*i<=L by omega);have cd:=hid (show p0+c*i+d*i=p1 by omega);clear D G aB hE;obtain⟨xs,I,bA⟩:=aN.out;have c8:=hid bA;have aF:=yg t total leaf i zs j;have b8:=hid aF;have cq:xs.length=j*2:=by rw[I.1,aF]
                rw[aF]at I;clear bA aF;go_wp2_with fail
                refine(aP.out N L p0 _ c _ bm b3.out hm).mono ?_;rintro r w4 ⟨l1,r1,rfl,ai,⟨qa,rfl,cp⟩,an⟩;have cw:=an.size;simp at cw
                have S:Below wr.heap.size wr w4:=qs _ (Below.trans (Br.alloc Nl _) (an.mono (by simp)));have aR:w4.heap[wr.heap.size+1]? =some (Obj.cells #[.slice none 0 0,.slice none 0 0] 69 (0,0)):=(an.block _ (by simp)).trans (qB _ _ (by simp));have bU:w4.heap[wr.heap.size]? =some (Obj.cells #[.int .i64 z0,.int .u64 z1,.int .u64 z2,.int .u64 z3,.bool z4,.bool z5,.int .u64 c] 131 (0,0)):=(an.block _ (by simp;omega)).trans ((Bh _ _ _ (by simp)).trans (Wn _ _));have bf:=(S.block _ q1).trans da.out;have ca:=(S.block _ q2).trans cI.out;have a4:=(S.block N (by omega)).trans ct.out;have aA:=qa1 ai a4 (by rw[ac];exact b3.out);obtain⟨a1,aq,rfl⟩:=Yk ai;obtain⟨cB,cn⟩:=yr bf;obtain⟨de,cx⟩:=yr bU;obtain⟨db,cV⟩:=yr aR;have q4:w.heap.size<w4.heap.size:=by omega
                have q5:wr.heap.size<w4.heap.size:=by omega
                have q6:wr.heap.size+1<w4.heap.size:=by omega
                have bR:=hid aR;have dc:=hid a4;have cX:=hid ca;have dA:=hid bf;have bo:=hid aA;have ba:jR N L (p0+c*i) (.slice (some ⟨N,qa,none⟩) (L - (p0+c*i)) (L - (p0+c*i))):=⟨qa,rfl,cp⟩;clear aR bU bf ca a4 aA an ai cT fT cP fP cR fR c0 c1 c2 c3 c4 c5 c6;go_wp2_with fail
                refine(aP.out N L (p0+c*i) _ d _ ba bv.out hm).mono ?_;rintro r X ⟨l2,r2,rfl,aj,⟨qb,rfl,cU⟩,U⟩;have cy:=U.size;simp at cy
                have aC:X.heap[wr.heap.size+1]? =some (Obj.cells #[.slice a1 c aq,.slice none 0 0] 69 (0,0)):=(U.block _ (by simp;omega)).trans (block_setCell bR.out _);have aU:=(U.block P (by simp;omega)).trans ((Below.heap_setCell w4 ⟨wr.heap.size+1,0,none⟩ (.slice a1 c aq) P (by show P≠wr.heap.size+1;omega)).trans cX.out);have bK:=(U.block N (by simp;omega)).trans ((Below.heap_setCell w4 ⟨wr.heap.size+1,0,none⟩ (.slice a1 c aq) N (by show N≠wr.heap.size+1;omega)).trans dc.out);have aG:=qa1 aj bK (by rw[ac];exact bv.out);obtain⟨a2,V,rfl⟩:=Yk aj;have aJ:(X.setCell ⟨wr.heap.size+1,1,none⟩ (.slice a2 d V)).ownsRow Z.heap.size 69 2 v j xs:=yN I (fun g _ g2=>(Below.heap_setCell _ _ _ _ (by show g≠wr.heap.size+1;omega)).trans ((U.block g (by simp;omega)).trans ((Below.heap_setCell _ _ _ _ (by show g≠wr.heap.size+1;omega)).trans (S.block g g2))));have bJ:pKeeps [5,24] w4 (X.setCell ⟨wr.heap.size+1,1,none⟩ (.slice a2 d V)):=(zh bR.out (by decide) _).trans ((jH U).trans (zh aC (by decide) _));have a3:pKeeps [5,24] X (X.setCell ⟨wr.heap.size+1,1,none⟩ (.slice a2 d V)):=zh aC (by decide) _;have aY:ButP P Z.heap.size Z (X.setCell ⟨wr.heap.size+1,1,none⟩ (.slice a2 d V)):=ae.trans ((JP S cW).trans ((qcu w4 _ (.inr (by omega))).trans ((JP U (by simp;omega)).trans (qcu X _ (.inr (by omega))))));obtain⟨dm,dt⟩:=yr aC;obtain⟨dE,du⟩:=yr aU;have q7:P<X.heap.size:=by omega
                have q8:wr.heap.size+1<X.heap.size:=by omega
                have cZ:=hid aU;have bM:=hid bJ;have ck:=hid a3;have cc:=hid aY;have bn:=hid aG;have Y:=hid aJ;obtain⟨i1,ce,cS,cm,cQ⟩:=info_parts qdp;clear aC aU bK aG bJ a3 aY U aj cB cn de cx db cV aJ I;go_wp2_with (at_builtin;refine wpList_append_own _ rfl _ _ 53 rfl Z.heap.size 69 i1 _ 2 48 Tryz.underlying53 ce cS cm cQ rfl (by decide) _ j xs rfl (Y.out.alloc _) ⟨X.heap.size,0,none⟩ 1 1 [.slice a1 c aq,.slice a2 d V] rfl rfl (qgO _ _ _ _ _ (by simp)) (by simp[Value.oneCell']) (by unfold maxLen;omega) (by omega) (by simp;omega) ?_;intro v' w6 aI al _;obtain⟨g6,b0,rfl⟩:=ownsRow_form aI (by omega);have aX:=(al.block P (by simp;omega) (fun e=>by have:=(Y.out.lt P e.symm).1;omega)).trans ((Bh _ _ P (by simpa using q7)).trans ((Below.heap_setCell X ⟨wr.heap.size+1,1,none⟩ (.slice a2 d V) P (by show P≠wr.heap.size+1;omega)).trans cZ.out));obtain⟨dw,dB⟩:=yr aX;have bu:=hid aX;clear aX)
                have a8:pKeeps [5,24] (X.setCell ⟨wr.heap.size+1,1,none⟩ (.slice a2 d V)) (w6.setCell ⟨P,2,none⟩ (.slice (some ⟨g6,0,none⟩) (j+1) b0)):=(qfj _ _).trans ((qfi (Y.out.alloc _) al (by decide)).trans (zh bu.out (by decide) _));refine⟨⟨j+1,.slice (some ⟨g6,0,none⟩) (j+1) b0,rfl,by omega,?_,?_,block_setCell bu.out _,hid ?_⟩,by simp[intOf];omega⟩
                · rw[cG.out,<-cd.out];exact⟨qb,rfl,cU⟩
                · exact cc.out.trans ((JP (Br.alloc Nl _) (by simp;omega)).trans ((qgU al (by simp;omega) (fun g e=>(Y.out.lt g e).1)).trans (qcu w6 _ (.inl rfl))))
                · rw[bg.out]
                  refine qev (w:=wr) (xs:=xs) (u:= .slice a1 c aq) (u':= .slice a2 d V) c8.out (by rw[b8.out];exact cq) ?_ ((jH S).trans (bM.out.trans a8)) (bo.out.keep (bM.out.trans a8) (by decide) (by decide)) (bn.out.keep (ck.out.trans a8) (by decide) (by decide));rw[b8.out];exact ownsRow_setCell_below aI (a:=⟨P,2,none⟩) (by show P<Z.heap.size;omega) _
              · obtain rfl:j=k:=by omega
                obtain⟨xs,I, -⟩:=id aN.out;obtain⟨av,dD,rfl⟩:=Yk I;clear I;go_wp2
                exact Bp (yT rfl rfl rfl (b:=w.heap.size+1) (Yo bT.out _ _ _) rfl) rfl ⟨_,_,rfl,P0.out HE.out br.out _ _ (aN.out.move (qgw bT.out (by decide) _ _ _) (fun g g1 _=>qgp (by omega) _ _ _)).at,Yp (ch.trans ((ae.below (by omega)).mono (by omega))) (by omega) _ _ _⟩
  · have HE:=hid he
    have q:(t.spotE total 0 leaf != 0)=true:=by rw[bne_iff_ne];exact he
    refine(bw.out he _).mono ?_;rintro r w2 ⟨rfl,ah⟩;have ad:Below w1.heap.size w1 w2:=qs _ ah;have ag:=(ad.block _ bG).trans HR.out;have aS:=hid ag;obtain⟨dC,dy⟩:=yr ag;clear ah ag cR fR he;go_wp2
    exact Bp (yT rfl rfl rfl (b:=w.heap.size+1) (Yo aS.out _ _ _) rfl) rfl ⟨_,_,rfl,P1.out HE.out _,Yp (aL.trans (ad.mono (by omega))) (by omega) _ _ _⟩
