/- Whether a path fits a tree, by the program. No condition. -/
import Derived.Test.YthjoojnlnlmljaaGreatB06
import Derived.Test.YthjoojnlnlmljaaGreatB10
import Derived.Deep.AppendLies
import Derived.Deep.RegionHeld3
import Derived.Laws.AppendOwnNone
import Derived.BigQuiet
import Derived.Deep.QuietTactic
import Derived.Maps.AppendAt
import Derived.Laws.CopyOwn
set_option linter.all false
set_option maxRecDepth 100000
set_option maxHeartbeats 8000000
namespace Go.Proofs.YthjoojnlnlmljaaGreat
open Go.ChangeShapes Go.WideShapes Go.ChangeAt Go.RowKit Go.Joins Go.Shelf Go.Maps
open Go.Lib (hid)
attribute [local go_sem] Oper.semAt_some
def pSrcIs (w:World)(x:Value)(m:Nat)(news:List Value):Prop:=
  news.length=m∧(∀u∈news,u.oneCell'=true)∧((x= .slice none 0 0∧m=0)∨ ∃ad c,x= .slice (some ad) m c∧ ∀j u,news[j]? =some u→w.cell? (ad.add j)=some u)
theorem pSrcIs.below {w w':World}{x:Value}{m:Nat}{o:List Value}(h:pSrcIs w x m o)(G:Below w.heap.size w w'):pSrcIs w' x m o:=by
  refine⟨h.1,h.2.1,?_⟩;rcases h.2.2 with q|⟨D,c,e,q⟩
  · exact .inl q
  · refine .inr ⟨D,c,e,fun j u r=>?_⟩
    have:=q j u r
    rw[G.cell (World.block_lt_of_cell? w _ this)];exact this
theorem pRowsAt.src {w:World}{v:Value}{ds:List (List Int)}(h:pRowsAt w v ds): ∃o,pSrcIs w v ds.length o∧ ∀j,j<ds.length→ ∃a c,o[j]? =some (.slice a (QH ds j).length c):=by
  obtain⟨a,r,V,rfl,O,h⟩:=h;rcases h with rfl|⟨b,off,rfl,S,h⟩
  · refine⟨[],⟨rfl,by simp,?_⟩,by simp⟩
    cases a with
    | none=>rw[O rfl];exact .inl ⟨rfl,rfl⟩
    | some ad=>exact .inr ⟨ad,r,rfl,by simp⟩
  · refine⟨(List.range ds.length).map V,⟨by simp,?_,.inr ⟨⟨b,off,none⟩,r,rfl,?_⟩⟩,?_⟩
    · intro u J
      obtain⟨i,hi,rfl⟩:=List.mem_map.1 J;obtain⟨-,I,G,e, -⟩:=h i (List.mem_range.1 hi);rw[e];rfl
    · intro j u q
      obtain⟨D,rfl⟩:=List.getElem?_eq_some_iff.1 q;simp at D
      rw[Go.WideShapes.add_plain];simpa using(h j D).1
    · intro j q
      obtain⟨-,I,G,e, -⟩:=h j q;exact⟨I,G,by rw[←e];simp[q]⟩
theorem ZX {P:Program}{w W:World}{B:Nat}(hB:B=W.heap.size)(G:Below B W w)(t S e:TypeId)(i:TypeInfo)(z:Value)(bytes:Nat)(Z:P.underlying t=some (.slice e))(hi:P.info? e=some i)(hz:i.zero=some z)
    (D:i.size=1) (Y:i.bytes=bytes) (V:z.cells.size=1) (v:Value) (n:Nat) (xs:List Value) (o:w.ownsRow B e 1 v n xs)
    (x:Value) (m:Nat) (q:List Value) (O:pSrcIs w x m q) (X:n+m≤maxLen) (r:(n+m)*bytes≤140737488355328):
    ∃v' w',(Builtin.append_ #[t,t] S #[v,x]).run P w= .ok v' w'∧w'.ownsRow B e 1 v' (n+m) (xs++q)∧Below B W w':=by
  subst hB;obtain⟨h1,h2,U⟩:=O;rcases U with⟨rfl,rfl⟩|⟨ad,c,rfl,U⟩
  · obtain rfl:q=[]:=List.eq_nil_of_length_eq_zero h1
    exact⟨v,w,run_append_owned_none w W.heap.size t S e i 1 Z hi v n xs o,by simpa using o,G⟩
  · obtain⟨v',w',hr,J,I, -⟩:=run_append_own (P:=P) w W.heap.size t S e i z 1 bytes Z hi hz D Y V (by omega) v n xs o ad m c q (by omega) U h2 X r G.size
    exact⟨v',w',hr,J,G.grown I G.size (fun k e=>(o.lt k e).1)⟩
theorem qap {P:Program}{w:World}{ops:Array Oper}{o:Oper}{a:Act}{K:Act→World→Prop}{Q:Exit→Act→World→Prop}{E:Prop}(U:o.guard=none)(s x:Operand)(t:TypeId)
    (ho:o.op= .call { callee:= .builtin .append,args:= #[s,x],argTypes:= #[t,t] }) (W:World) (B:Nat) (Z:B=W.heap.size) (hb:Below B W w)
    (e:TypeId) (i:TypeInfo) (z:Value) (bytes:Nat) (ht:P.underlying t=some (.slice e)) (hi:P.info? e=some i) (hz:i.zero=some z)
    (D:i.size=1) (S:i.bytes=bytes) (J:z.cells.size=1) (v:Value) (n:Nat) (xs:List Value) (hs:a.eval s=v) (I:w.ownsRow B e 1 v n xs)
    (u:Value) (m:Nat) (q:List Value) (X:a.eval x=u) (G:pSrcIs w u m q) (O:n+m≤maxLen) (r:(n+m)*bytes≤140737488355328)
    (h: ∀v' w',w'.ownsRow B e 1 v' (n+m) (xs++q)→Below B W w'→K (a.put o.dst v') w'):
    if Region.wanted o (yielded ops a.tmps)=true then Oper.wp P o a w K Q else E:=by
  have hw:Region.wanted o (yielded ops a.tmps)=true:=by simp[Region.wanted,U]
  rw[if_pos hw];obtain⟨v',w',V,Y,h3⟩:=ZX (P:=P) Z hb t o.type e i z bytes ht hi hz D S J v n xs I u m q G O r;unfold Oper.wp execOp;simp only[ho,resolve,invoke,builtin,Sem.run_bind,Sem.run_pure,Result.andThen_ok,List.map_toArray,List.map_cons,List.map_nil,hs,X,V];exact h v' w' Y h3
theorem qeG {w:World}{B n:Nat}{e:TypeId}{v:Value}{xs:List Value}(h:w.ownsRow B e 1 v n xs)(q: ∀u∈xs,u.oneCell'=true):pSrcIs w v n xs:=by
  refine⟨by have:=h.1;omega,q,?_⟩;rcases h.2 with⟨rfl,rfl⟩|⟨g,o,r,rfl, -⟩
  · exact .inl ⟨rfl,rfl⟩
  · exact .inr ⟨⟨g,0,none⟩,o,rfl,h.cells (g:=g) rfl⟩
theorem qbE {P:Program}{w W:World}{B:Nat}(V:B=W.heap.size)(U:Below B W w)(t J e:TypeId)(i:TypeInfo)(z:Value)(bytes:Nat)(Y:P.underlying t=some (.slice e))(hi:P.info? e=some i)(X:i.zero=some z)
    (r:i.size=1) (S:i.bytes=bytes) (I:z.cells.size=1) (v:Value) (n:Nat) (xs:List Value) (G:w.ownsRow B e 1 v n xs)
    (x:Value) (m:Nat) (o:List Value) (D:pSrcIs W x m o) (O:n+m≤maxLen) (q:(n+m)*bytes≤140737488355328):
    ∃v' w',(Builtin.append_ #[t,t] J #[v,x]).run P w= .ok v' w'∧w'.ownsRow B e 1 v' (n+m) (xs++o)∧Below B W w':=by
  subst V;exact ZX rfl U t J e i z bytes Y hi X r S I v n xs G x m o (D.below U) O q
theorem qco {P:Program}{w:World}{o:Oper}{a:Act}{K:Act→World→Prop}{Q:Exit→Act→World→Prop}(s x:Operand)(t:TypeId)
    (Z:o.op= .call { callee:= .builtin .append,args:= #[s,x],argTypes:= #[t,t] }) (W:World) (B:Nat) (Y:B=W.heap.size) (hb:Below B W w)
    (e:TypeId) (i:TypeInfo) (z:Value) (bytes:Nat) (ht:P.underlying t=some (.slice e)) (hi:P.info? e=some i) (hz:i.zero=some z)
    (D:i.size=1) (S:i.bytes=bytes) (J:z.cells.size=1) (v:Value) (n:Nat) (xs:List Value) (hs:a.eval s=v) (I:w.ownsRow B e 1 v n xs)
    (u:Value) (m:Nat) (q:List Value) (V:a.eval x=u) (G:pSrcIs W u m q) (O:n+m≤maxLen) (r:(n+m)*bytes≤140737488355328)
    (h: ∀v' w',w'.ownsRow B e 1 v' (n+m) (xs++q)→Below B W w'→K (a.put o.dst v') w'):o.wp P a w K Q:=by
  obtain⟨v',w',U,X,h3⟩:=qbE (P:=P) Y hb t o.type e i z bytes ht hi hz D S J v n xs I u m q G O r;unfold Oper.wp execOp;simp only[Z,resolve,invoke,builtin,Sem.run_bind,Sem.run_pure,Result.andThen_ok,List.map_toArray,List.map_cons,List.map_nil,hs,V,U];exact h v' w' X h3
theorem ZV {P:Program}{w:World}{ops:Array Oper}{o:Oper}{a:Act}{K:Act→World→Prop}{Q:Exit→Act→World→Prop}{E:Prop}(U:o.guard=none)(s x:Operand)(t:TypeId)
    (Y:o.op= .call { callee:= .builtin .append,args:= #[s,x],argTypes:= #[t,t] }) (W:World) (B:Nat) (X:B=W.heap.size) (Z:Below B W w)
    (e:TypeId) (i:TypeInfo) (z:Value) (bytes:Nat) (ht:P.underlying t=some (.slice e)) (hi:P.info? e=some i) (hz:i.zero=some z)
    (D:i.size=1) (S:i.bytes=bytes) (J:z.cells.size=1) (v:Value) (n:Nat) (xs:List Value) (hs:a.eval s=v) (I:w.ownsRow B e 1 v n xs)
    (u:Value) (m:Nat) (q:List Value) (V:a.eval x=u) (G:pSrcIs W u m q) (O:n+m≤maxLen) (r:(n+m)*bytes≤140737488355328)
    (h: ∀v' w',w'.ownsRow B e 1 v' (n+m) (xs++q)→Below B W w'→K (a.put o.dst v') w'):
    if Region.wanted o (yielded ops a.tmps)=true then Oper.wp P o a w K Q else E:=by
  have hw:Region.wanted o (yielded ops a.tmps)=true:=by simp[Region.wanted,U]
  rw[if_pos hw];exact qco s x t Y W B X Z e i z bytes ht hi hz D S J v n xs hs I u m q V G O r h
theorem qjI {b a:List (List Int)}{o q:List Value}(r:o.length=b.length)(G: ∀j,j<b.length→ ∃x c,o[j]? =some (.slice x (QH b j).length c))(D: ∀j,j<a.length→ ∃x c,q[j]? =some (.slice x (QH a j).length c)):
    ∀k,k<b.length+a.length→ ∃x c,(o++q)[k]? =some (.slice x (QH (b++a) k).length c):=by
  intro k I;by_cases h:k<b.length
  · obtain⟨x,c,e⟩:=G k h
    refine⟨x,c,?_⟩;rw[List.getElem?_append_left (by omega),e];unfold QH;rw[Lg,Lg,List.getElem?_append_left h]
  · obtain⟨x,c,e⟩:=D (k - b.length) (by omega)
    refine⟨x,c,?_⟩;rw[List.getElem?_append_right (by omega),r,e];unfold QH;rw[Lg,Lg,List.getElem?_append_right (by omega)]
theorem qiZ {ds:List (List Int)}{i:Int}(h: ∀k,k<ds.length→((QH ds k).length:Int)=i): ∀d∈ds,(d.length:Int)=i:=by
  intro d q;obtain⟨k,o,rfl⟩:=List.mem_iff_getElem.1 q;have:=h k o
  unfold QH at this;rwa[Lg,List.getElem?_eq_getElem o]at this
theorem yQ {ds:List (List Int)}{k:Nat}(h:k<ds.length):QH ds k∈ds:=by
  unfold QH;rw[Lg,List.getElem?_eq_getElem h];exact List.getElem_mem h
def jD (inner:Int)(ch af:Nat→Int)(ss:List Qh)(j:Nat):Prop:=((qA ss j).1.length:Int)=ch j∧((qA ss j).2.length:Int)=af j∧ ∀d∈(qA ss j).1++(qA ss j).2,(d.length:Int)=inner
def Zr (inner:Int)(m:Nat)(ch af:Nat→Int)(ss:List Qh):Prop:=ss.length=m∧ ∀j,j<m→jD inner ch af ss j
def StageAt (w:World)(g:Nat)(R A F T ch:Nat→Int)(la ro:Nat→Bool)(j:Nat):Prop:=
  w.cell? ⟨g,j*7,none⟩=some (.int .i64 (R j))∧w.cell? ⟨g,j*7+1,none⟩=some (.int .u64 (A j))∧w.cell? ⟨g,j*7+2,none⟩=some (.int .u64 (F j))∧w.cell? ⟨g,j*7+3,none⟩=some (.int .u64 (T j))∧
    w.cell? ⟨g,j*7+4,none⟩=some (.bool (la j))∧w.cell? ⟨g,j*7+5,none⟩=some (.bool (ro j))∧w.cell? ⟨g,j*7+6,none⟩=some (.int .u64 (ch j))
theorem StageAt.below {w w':World}{g:Nat}{R A F T D:Nat→Int}{la r:Nat→Bool}{j:Nat}(h:StageAt w g R A F T D la r j)(o:g<w.heap.size)(q:Below w.heap.size w w'):StageAt w' g R A F T D la r j:=by
  obtain⟨S,G,I,U,V,J,O⟩:=h;exact⟨(q.cell (p:=⟨g,_,none⟩) o).trans S,(q.cell (p:=⟨g,_,none⟩) o).trans G,(q.cell (p:=⟨g,_,none⟩) o).trans I,(q.cell (p:=⟨g,_,none⟩) o).trans U,(q.cell (p:=⟨g,_,none⟩) o).trans V,(q.cell (p:=⟨g,_,none⟩) o).trans J,(q.cell (p:=⟨g,_,none⟩) o).trans O⟩
def Boxes (w:World)(ti:Int)(u:Value)(wr:World):Prop:=Below w.heap.size w wr∧w.heap.size+2≤wr.heap.size∧wr.cell? ⟨w.heap.size,5,none⟩=some (.int .i64 ti)∧wr.cell? ⟨w.heap.size+1,2,none⟩=some u
theorem Boxes.below {w wr w':World}{q:Int}{u:Value}(h:Boxes w q u wr)(o:Below wr.heap.size wr w'):Boxes w q u w':=by
  obtain⟨r,I,D,G⟩:=h;have:=o.size
  exact⟨r.trans (o.mono (by omega)),by omega,(o.cell (p:=⟨w.heap.size,5,none⟩) (by show w.heap.size<wr.heap.size;omega)).trans D,(o.cell (p:=⟨w.heap.size+1,2,none⟩) (by show w.heap.size+1<wr.heap.size;omega)).trans G⟩
theorem qfh (w:World){o r:Array Value}{q I:TypeId}{D:Int}{u:Value}(G:o[5]? =some (.int .i64 D))(J:r[2]? =some u):Boxes w D u ((w.alloc (.cells o q)).alloc (.cells r I)):=by
  refine⟨(Br.alloc Nl _).alloc (by simp) _,by simp,?_,?_⟩
  · rw[qd ((Bh (w.alloc (.cells o q)) _ w.heap.size (by simp)).trans (Wn w _)) 5];exact G
  · have e:(w.alloc (.cells o q)).heap.size=w.heap.size+1:=by simp
    rw[←e,qd (Wn (w.alloc (.cells o q)) _) 2];exact J
theorem qaZ:(Tryz.prog.info? 24).map (fun i=>(i.zero,i.size,i.bytes))=some (some (.slice none 0 0),1,24):=by kernel_rfl
theorem JU {P:Program}{c:Code}{Q:Exit→Act→World→Prop}{a:Act}{w:World}(h: ∀W,W=w→Code.wp P c Q a W):Code.wp P c Q a w:=h w rfl
theorem qiK (t:TreeV)(total leaf:Nat)(u:Value)(ss:List Qh)(w:World)(D:StepsAt w u ss)(q:yZ 1048576 ss)(m:Nat)(r:Option Addr)(o:Nat)(I:m≤255)(G:ss.length≠m):
    Calls Tryz.prog 88 #[t.val,.agg #[.int .u64 total,.int .u64 leaf,u],.slice r m o] w fun e w'=>e= .returned (.bool false)∧Below w.heap.size w w':=by
  obtain⟨a,c,U,V,rfl, -, -⟩:=D;have J:=q.1;have X:((ss.length:Int)==(m:Int))=false:=by rw[beq_eq_false_iff_ne];omega
  have Y:(ss.length==m)=false:=by rw[beq_eq_false_iff_ne];omega
  have O:((ss.length:Int) != (m:Int))=true:=by rw[bne_iff_ne];omega
  have S:(ss.length != m)=true:=by rw[bne_iff_ne];omega
  unfold TreeV.val;go_enter Tryz.func88,Tryz.ntmps88
  go_wp2
  go_ret
  exact⟨rfl,(Br.alloc Nl _).alloc (by simp) _⟩
theorem qhC (t:TreeV)(total leaf:Nat)(u:Value)(ss:List Qh)(w:World)(hs:StepsAt w u ss)(ho:yZ 1048576 ss)(g ax:Nat)(hg:g<w.heap.size)(hm:ss.length≤255)(al:1≤ss.length)
    (R A F T r af:Nat→Int) (la ro:Nat→Bool) (HC:Hid (∀j,j<ss.length→StageAt w g R A F T r la ro j))
    (HF:Hid (∀j,j<ss.length→0≤F j∧F j≤T j∧T j≤18446744073709551615∧0≤r j∧0≤af j∧af j=T j - F j - r j - 1)):
    Calls Tryz.prog 88 #[t.val,.agg #[.int .u64 total,.int .u64 leaf,u],.slice (some ⟨g,0,none⟩) ss.length ax] w fun e w'=> ∃b:Bool,e= .returned (.bool b)∧(b=true↔ ∀j,j<ss.length→jD t.i r af ss j)∧Below w.heap.size w w':=by
  obtain⟨i0,hi,ae,ah,ag⟩:=info_parts qaZ;obtain⟨a,c,U,V,rfl, -,h⟩:=hs;obtain⟨b,off,rfl,ak,h'⟩:=h.resolve_left (fun e=>by rw[e]at al;simp at al);have HU:=hid h';clear h h';have HO:=hid ho.2;unfold TreeV.val;go_enter Tryz.func88,Tryz.ntmps88
  go_wp2_with fail
  go_loopw [21] (fun i wr=> ∃j:Nat,i= .int .i64 j∧j≤ss.length∧Boxes w t.i (.slice (some ⟨b,off,none⟩) ss.length c) wr∧Hid (∀j',j'<j→jD t.i r af ss j')) (fun i _=>ss.length - (intOf i).toNat)
  case atStart=>exact⟨0,rfl,by omega,qfh w rfl rfl,hid (fun j' h=>absurd h (Nat.not_lt_zero _))⟩
  case round=>
    obtain⟨j,rfl,hj,hx,HS⟩:=hrel;obtain⟨S,aK,aB,aF⟩:=id hx;have aG:g<wr.heap.size:=by omega
    have aC:b<wr.heap.size:=by omega
    have aD:w.heap.size<wr.heap.size:=by omega
    have az:w.heap.size+1<wr.heap.size:=by omega
    by_cases G:j<ss.length
    · obtain⟨c0,c1,c2,c3,c4,c5,c6⟩:=(HC.out j G).below hg S
      obtain⟨cu,cv,ru,rv⟩:=HU.out j G;have ao:qA ss j∈ss:=by unfold qA;rw[Lg,List.getElem?_eq_getElem G];exact List.getElem_mem G
      obtain⟨⟨lu, -⟩,lv, -⟩:=HO.out _ ao;obtain⟨f1,f2,f3,f4,f5,f6⟩:=HF.out j G;obtain⟨nu,su,gu⟩:=ru.src;obtain⟨nv,sv,gv⟩:=rv.src;have ay:wr.cell? ⟨b,off+j*2,none⟩=some (U j):=(S.cell (p:=⟨b,_,none⟩) ak).trans cu;have aw:wr.cell? ⟨b,off+j*2+1,none⟩=some (V j):=(S.cell (p:=⟨b,_,none⟩) ak).trans cv;have ai:=hid (su.below S);have aj:=hid (sv.below S);have ar:=hid (qjI su.1 gu gv);obtain⟨au,ku,VU,eu, -, -⟩:=ru;obtain⟨av,kv,VV,ev, -, -⟩:=rv;rw[eu]at ay ai;rw[ev]at aw aj;clear su sv gu gv cu cv eu ev;generalize Y:(qA ss j).1.length=o at*;generalize Z:(qA ss j).2.length=D at*;by_cases O:(o:Int)=r j
      · by_cases h2:(D:Int)=af j
        · have q1:((o:Int) != r j)=false:=by rw[bne_eq_false_iff_eq];exact O
          have q2:((D:Int) != T j - F j - r j - 1)=false:=by rw[bne_eq_false_iff_eq];omega
          have H1:=hid O;have H2:=hid h2;clear O h2;go_wp2_with fail
          refine JU ?_;intro W hW;have aA:W.heap.size=wr.heap.size+2:=by rw[hW];simp
          have ab:Below wr.heap.size wr W:=by rw[hW];exact(Br.alloc Nl _).alloc (by simp) _
          have cU:W.cell? ⟨wr.heap.size+1,0,none⟩=some (.slice au o ku):=by
            rw[hW,show wr.heap.size+1=(wr.alloc (Obj.cells #[.int .i64 (R j),.int .u64 (A j),.int .u64 (F j),.int .u64 (T j),.bool (la j),.bool (ro j),.int .u64 (r j)] 127)).heap.size by simp];exact qd (Wn _ _) 0
          have cV:W.cell? ⟨wr.heap.size+1,1,none⟩=some (.slice av D kv):=by
            rw[hW,show wr.heap.size+1=(wr.alloc (Obj.cells #[.int .i64 (R j),.int .u64 (A j),.int .u64 (F j),.int .u64 (T j),.bool (la j),.bool (ro j),.int .u64 (r j)] 127)).heap.size by simp];exact qd (Wn _ _) 1
          have kW:wr.heap.size+1<W.heap.size:=by omega
          have ap:=ai.out.below ab;have am:=aj.out.below ab;clear hW;go_region_held3 (fun w'=>w'.cell? ⟨wr.heap.size+1,0,none⟩=some (.slice au o ku)∧w'.cell? ⟨wr.heap.size+1,1,none⟩=some (.slice av D kv))
            (first|go_keep|exact⟨(ac.cell (p:=⟨wr.heap.size+1,0,none⟩) kW).trans cU,(ac.cell (p:=⟨wr.heap.size+1,1,none⟩) kW).trans cV⟩|exact⟨(I.cell (p:=⟨wr.heap.size+1,0,none⟩) kW).trans cU,(I.cell (p:=⟨wr.heap.size+1,1,none⟩) kW).trans cV⟩)
            (first
              | (refine ZV (by rfl) _ _ _ (by rfl) W W.heap.size rfl (by first|exact Below.refl _ _|exact Br.drew|exact Br.drew.drew|exact Br.drew.drew.drew) 24 i0 (.slice none 0 0) 24 Tryz.underlying67 hi ae ah ag rfl (.slice none 0 0) 0 [] (by rfl) (Wo _ _ _ _) (.slice au o ku) o nu (by rfl) ap (by unfold maxLen;omega) (by omega) ?_;intro vA wA q I)
              | (refine ZV (by rfl) _ _ _ (by rfl) W W.heap.size rfl (by first|exact I|exact I.drew|exact I.drew.drew|exact I.drew.drew.drew) 24 i0 (.slice none 0 0) 24 Tryz.underlying67 hi ae ah ag rfl vA (0+o) ([]++nu) (by rfl) (by first|exact q|exact q.drew|exact q.drew.drew|exact q.drew.drew.drew) (.slice av D kv) D nv (by rfl) am (by unfold maxLen;omega) (by omega) ?_;intro vB wB J ac;obtain⟨gB,kB,rfl⟩:=Ye J))
          have X:wB.ownsRow W.heap.size 24 1 (.slice gB (o+D) kB) (o+D) (nu++nv):=by simpa using J
          have an:Below wr.heap.size wr wB:=ab.trans (ac.mono (by omega));have ad:=hx.below an;have aJ:=ad.2.2.1;clear J q I;go_wp2_with fail
          go_loopw [64] (fun i wi=> ∃k:Nat,i= .int .i64 k∧wB=wi∧k≤o+D∧Hid (∀k',k'<k→((QH ((qA ss j).1++(qA ss j).2) k').length:Int)=t.i)) (fun i _=>o+D - (intOf i).toNat)
          case atStart=>exact⟨0,rfl,rfl,by omega,hid (fun k h=>absurd h (Nat.not_lt_zero _))⟩
          case round=>
            obtain⟨k,rfl,rfl,hk,HK⟩:=hrel;by_cases aq:k<o+D
            · obtain⟨g',c',e⟩:=ownsRow_form X (by omega)
              simp only[Value.slice.injEq,true_and]at e;obtain⟨rfl,rfl⟩:=e;obtain⟨x,cx,ex⟩:=ar.out k (by omega);have aE:=(X.cellAt k (by omega)).trans ex;by_cases h3:((QH ((qA ss j).1++(qA ss j).2) k).length:Int)=t.i
              · have q3:(((QH ((qA ss j).1++(qA ss j).2) k).length:Int) != t.i)=false:=by rw[bne_eq_false_iff_eq];exact h3
                have H3:=hid h3;clear h3;generalize aa:(QH ((qA ss j).1++(qA ss j).2) k).length=ln at*;go_wp2
                refine⟨⟨k+1,rfl,by trivial,by omega,hid fun k' aH=>?_⟩,by simp[intOf];omega⟩;by_cases e:k'=k
                · rw[e,aa];exact H3.out
                · exact HK.out k' (by omega)
              · have q3:(((QH ((qA ss j).1++(qA ss j).2) k).length:Int) != t.i)=true:=by rw[bne_iff_ne];exact h3
                have H3:=hid h3;clear h3;generalize aa:(QH ((qA ss j).1++(qA ss j).2) k).length=ln at*;go_wp2
                go_ret
                refine⟨false,rfl,⟨fun e=>absurd e (by simp),fun h=>?_⟩,ad.1⟩;exact absurd ((h j G).2.2 _ (yQ (k:=k) (by rw[List.length_append,Y,Z];exact aq))) (by rw[aa];exact H3.out)
            · obtain rfl:k=o+D:=by omega
              go_wp2
              refine⟨⟨j+1,rfl,by omega,ad,hid fun j' aI=>?_⟩,by simp[intOf];omega⟩;by_cases e:j'=j
              · rw[e]
                exact⟨by rw[Y];exact H1.out,by rw[Z];exact H2.out,qiZ (by rw[List.length_append,Y,Z];exact HK.out)⟩
              · exact HS.out j' (by omega)
        · have q1:((o:Int) != r j)=false:=by rw[bne_eq_false_iff_eq];exact O
          have q2:((D:Int) != T j - F j - r j - 1)=true:=by rw[bne_iff_ne];omega
          have H2:=hid h2;clear O h2;go_wp2
          go_ret
          exact⟨false,rfl,⟨fun e=>absurd e (by simp),fun h=>absurd ((h j G).2.1) (by rw[Z];exact H2.out)⟩,(S.alloc (by omega) _).alloc (by simp;omega) _⟩
      · have q1:((o:Int) != r j)=true:=by rw[bne_iff_ne];exact O
        have H1:=hid O;clear O;go_wp2
        go_ret
        exact⟨false,rfl,⟨fun e=>absurd e (by simp),fun h=>absurd ((h j G).1) (by rw[Y];exact H1.out)⟩,(S.alloc (by omega) _).alloc (by simp;omega) _⟩
    · obtain rfl:j=ss.length:=by omega
      go_wp2
      go_ret
      exact⟨true,rfl,⟨fun _=>HS.out,fun _=>rfl⟩,S⟩
theorem qe3 (t:TreeV)(total leaf:Nat)(u:Value)(ss:List Qh)(w:World)(S:StepsAt w u ss)(J:yZ 1048576 ss)(g q m:Nat)(V:g<w.heap.size)(G:m≤255)(O:1≤m)
    (R A F T o r:Nat→Int) (la I:Nat→Bool) (U: ∀j,j<m→StageAt w g R A F T o la I j)
    (Y: ∀j,j<m→0≤F j∧F j≤T j∧T j≤18446744073709551615∧0≤o j∧0≤r j∧r j=T j - F j - o j - 1):
    Calls Tryz.prog 88 #[t.val,.agg #[.int .u64 total,.int .u64 leaf,u],.slice (some ⟨g,0,none⟩) m q] w fun e w'=> ∃b:Bool,e= .returned (.bool b)∧(b=true↔Zr t.i m o r ss)∧Below w.heap.size w w':=by
  by_cases h:ss.length=m
  · subst h
    refine(qhC t total leaf u ss w S J g q V G O R A F T o r la I (hid U) (hid Y)).mono ?_;rintro e w' ⟨b,rfl,X,D⟩
    exact⟨b,rfl,X.trans ⟨fun h=>⟨rfl,h⟩,fun h=>h.2⟩,D⟩
  · refine(qiK t total leaf u ss w S J m _ q G h).mono ?_
    rintro e w' ⟨rfl,D⟩
    exact⟨false,rfl,⟨fun e=>absurd e (by simp),fun Z=>absurd Z.1 h⟩,D⟩
theorem pRowsAt.elem {w:World}{a:Option Addr}{n D:Nat}{ds:List (List Int)}(h:pRowsAt w (.slice a n D) ds){k:Nat}(q:k<n):
    n=ds.length∧ ∃b off x c,a=some ⟨b,off,none⟩∧b<w.heap.size∧w.cell? ⟨b,off+k,none⟩=some (.slice x (QH ds k).length c)∧Holds8 w (.slice x (QH ds k).length c) (QH ds k):=by
  obtain⟨S,J,I,e, -,h⟩:=h;simp only[Value.slice.injEq]at e;obtain⟨rfl,rfl,rfl⟩:=e;obtain⟨b,off,rfl,G,h⟩:=h.resolve_left (fun e=>by rw[e]at q;simp at q);obtain⟨r,o⟩:=h k q;obtain⟨x,c,e,O⟩:=id o;rw[e]at r o;exact⟨rfl,b,off,x,c,rfl,G,r,o⟩
theorem qdJ {w:World}{B size n N:Nat}{e T:TypeId}{v:Value}{xs:List Value}{c:Array Value}{fr:Nat×Nat}(h:w.ownsRow B e size v n xs)(q:w.heap[N]? =some (.cells c T fr))(D:T≠e):some N≠v.ownBlock:=by
  intro o;rcases h.2 with⟨rfl, -⟩|⟨g,I,G,rfl, -,r, -⟩
  · simp[Value.ownBlock]at o
  · simp only[Value.ownBlock,Option.some.injEq]at o
    subst o;rw[r]at q;simp only[Option.some.injEq,Obj.cells.injEq]at q;exact D q.2.1.symm
theorem YZ {w:World}{ops:Array Oper}{q:List Oper}{o:Oper}{a:Act}{Q:Exit→Act→World→Prop}(V:o.guard=none)(s x:Operand)
    (ho:o.op= .call { callee:= .builtin .append,args:= #[s,x],argTypes:= #[24,24] }) (B:Nat) (L:List Int) (v:Value) (hs:a.eval s=v) (I:w.ownsRow B 5 1 v L.length (L.map qo))
    (u:Value) (zs:List Int) (Z:a.eval x=u) (G:Holds8 w u zs) (S:zs≠[]) (aa:L.length+zs.length≤1099511627776) (hB:B≤w.heap.size)
    (h: ∀v' w',w'.ownsRow B 5 1 v' (L++zs).length ((L++zs).map qo)→w.grownBy w' v.ownBlock→wpList Tryz.prog ops Q q (a.put o.dst v') w'):wpList Tryz.prog ops Q (o::q) a w:=by
  obtain⟨i0,hi,O,J,Y⟩:=info_parts Ql;obtain⟨ad,X,rfl,G⟩:=G;obtain⟨b,off,rfl,ab,U⟩:=G.resolve_left S;refine wpList_append_own w V s x _ ho B 5 i0 (.int .u8 0) 1 1 Tryz.underlying24 hi O J Y rfl (by decide) v L.length (L.map qo) hs I ⟨b,off,none⟩ zs.length X (zs.map qo) Z (by simp) (J3 U) (by simp[qo,Value.oneCell']) (by unfold maxLen;omega) (by omega) hB ?_;intro v' w' D r _;exact h v' w' (by rw[List.length_append,List.map_append];exact D) r
def Qb (ds:List (List Int)):Nat→List Int
  | 0=>[]
  | k+1=>Qb ds k++QH ds k
def ye (ss:List Qh):Nat→List Int
  | 0=>[]
  | k+1=>ye ss k++(Qb (qA ss k).1 (qA ss k).1.length++Qb (qA ss k).2 (qA ss k).2.length)
def ya (total leaf:Nat)(ss:List Qh)(k:Nat):List Int:=(qD total 8++qD leaf 8)++ye ss k
theorem yo {ds:List (List Int)}{i:Nat}(h: ∀d∈ds,d.length=i): ∀k,k≤ds.length→(Qb ds k).length=k*i
  | 0,_=>by simp[Qb]
  | k+1,hk=>by
    simp only[Qb,List.length_append,yo h k (by omega),h _ (yQ (k:=k) (by omega))];rw[Nat.add_mul,Nat.one_mul]
theorem qem (L:List Int)(ds:List (List Int))(k:Nat):L++Qb ds (k+1)=L++Qb ds k++QH ds k:=by simp[Qb]
theorem Zx {ss:List Qh}{k:Nat}(h:k<ss.length):qA ss k∈ss:=by
  unfold qA;rw[Lg,List.getElem?_eq_getElem h];exact List.getElem_mem h
theorem Je {ss:List Qh}{i:Nat}(q:yZ 1048576 ss)(hi:i≤64)(h: ∀j,j<ss.length→ ∀d∈(qA ss j).1++(qA ss j).2,d.length=i): ∀k,k≤ss.length→(ye ss k).length≤k*134217728
  | 0,_=>by simp[ye]
  | k+1,hk=>by
    have J:=Je q hi h k (by omega);obtain⟨D,G⟩:=q.2 _ (Zx (k:=k) (by omega));have r:=yo (fun d o=>h k (by omega) d (List.mem_append_left _ o)) (qA ss k).1.length Nl;have I:=yo (fun d o=>h k (by omega) d (List.mem_append_right _ o)) (qA ss k).2.length Nl;have S:(qA ss k).1.length*i≤1048576*64:=Nat.mul_le_mul D.1 hi;have O:(qA ss k).2.length*i≤1048576*64:=Nat.mul_le_mul G.1 hi;simp only[ye,List.length_append,r,I];omega
theorem zJ {total leaf:Nat}{ss:List Qh}{k:Nat}:(ya total leaf ss k).length=16+(ye ss k).length:=by
  simp only[ya,List.length_append,qG]
theorem qf0 (total leaf:Nat)(ss:List Qh)(k:Nat):ya total leaf ss (k+1)=ya total leaf ss k++Qb (qA ss k).1 (qA ss k).1.length++Qb (qA ss k).2 (qA ss k).2.length:=by
  simp only[ya,ye,List.append_assoc]
def StagesIs (w:World)(g m:Nat)(R A F T ch:Nat→Int)(la ro:Nat→Bool):Prop:=g<w.heap.size∧ ∀j,j<m→StageAt w g R A F T ch la ro j
theorem StagesIs.below {w w':World}{g m:Nat}{R A F T o:Nat→Int}{la q:Nat→Bool}(h:StagesIs w g m R A F T o la q)(r:Below w.heap.size w w'):StagesIs w' g m R A F T o la q:=
  ⟨Nat.lt_of_lt_of_le h.1 r.size,fun j D=>(h.2 j D).below h.1 r⟩
theorem qao (w:World){q:Array Value}{r D:TypeId}{a b u:Value}: ∀o,((w.alloc (.cells q r)).alloc (.cells #[a,b,u] D)).cell? ⟨w.heap.size+1,o,none⟩= #[a,b,u][o]? :=by
  intro o;have e:(w.alloc (.cells q r)).heap.size=w.heap.size+1:=by simp
  rw[←e,qd (Wn (w.alloc (.cells q r)) _) o]
theorem qdL {w:World}{B b e size n:Nat}{v:Value}{xs:List Value}(h:w.ownsRow B e size v n xs)(I:b≤B):w.ownsRow b e size v n xs:=
  ⟨h.1,h.2.imp id fun⟨g,q,o,r,D,G⟩=>⟨g,q,o,r,Nat.le_trans I D,G⟩⟩
theorem qgK (t:TreeV)(total leaf:Nat)(a4:(total:Int)≤18446744073709551615)(aH:(leaf:Int)≤18446744073709551615)(u:Value)(ss:List Qh)(w:World)(hs:StepsAt w u ss)(ho:yZ 1048576 ss)(m:Nat)(hm:m≤255)(aE:1≤m)(hi:1≤t.i∧t.i≤64)
    (R A F T ch af:Nat→Int) (la ro:Nat→Bool)
    (HW:Hid (∀w,Calls Tryz.prog 68 #[t.val,.int .u64 total,.int .u64 leaf] w fun e w'=> ∃g ae,e= .returned (.tuple #[.slice (some ⟨g,0,none⟩) m ae,.int .i64 0])∧StagesIs w' g m R A F T ch la ro∧Below w.heap.size w w'))
    (HF:Hid (∀j,j<m→0≤F j∧F j≤T j∧T j≤18446744073709551615∧0≤ch j∧0≤af j∧af j=T j - F j - ch j - 1)):
    Calls Tryz.prog 53 #[t.val,.agg #[.int .u64 total,.int .u64 leaf,u]] w fun r w'=> ∃v e,r= .returned (.tuple #[v,.int .i64 e])∧((¬Zr t.i m ch af ss∧v= .slice none 0 0∧e=4)∨(Zr t.i m ch af ss∧e=0∧w'.ownsRow w.heap.size 5 1 v (ya total leaf ss ss.length).length ((ya total leaf ss ss.length).map qo)))∧Below w.heap.size w w':=by
  have HS:=hid hs;have a6:=hid (fun(w1:World) (g ae:Nat) (h1:StepsAt w1 u ss) (h2:StagesIs w1 g m R A F T ch la ro)=>qe3 t total leaf u ss w1 h1 ho g ae m h2.1 hm aE R A F T ch af la ro h2.2 HF.out);obtain⟨ua,uc,U,V,rfl, -,aR⟩:=hs;unfold TreeV.val at*;go_enter Tryz.func53,Tryz.ntmps53
  go_wp2_with fail
  refine(HW.out _).mono ?_;rintro r w1 ⟨g,ae,rfl,ax,G⟩;have ay:=G.size;simp at ay
  have k1:w.heap.size<w1.heap.size:=by omega
  have bC:w.heap.size+1<w1.heap.size:=by omega
  have aQ:Below w.heap.size w w1:=qt _ (Below.trans (Br.alloc Nl _) (G.mono (by simp)));obtain⟨bc,bj⟩:=yS G;go_wp2_with fail
  refine(a6.out _ g ae (HS.out.below aQ) ax).mono ?_;rintro r q ⟨b,rfl,aD,aF⟩;have bz:=aF.size;have an:Below w.heap.size w q:=aQ.trans (aF.mono (by omega));have aU:=G.trans (aF.mono G.size);obtain⟨ao,bg⟩:=yS aU
  cases b with
  | false=>
    go_wp2
    exact Bp (results_tmp2 (fn:=Tryz.f53) (t:=4) (u:=5) rfl _ _ _) rfl ⟨_,_,rfl,.inl ⟨fun h=>absurd (aD.2 h) (by simp),rfl,rfl⟩,an⟩
  | true=>
    have aB:=aD.1 rfl;obtain⟨i0,bn,ba,be,bd⟩:=info_parts Ql;have c0:q.cell? ⟨w.heap.size+1,0,none⟩=some (.int .u64 total):=(ao _ 0 (by simp)).trans (qao w 0);have c1:q.cell? ⟨w.heap.size+1,1,none⟩=some (.int .u64 leaf):=(ao _ 1 (by simp)).trans (qao w 1);have c2:q.cell? ⟨w.heap.size+1,2,none⟩=some (.slice ua ss.length uc):=(ao _ 2 (by simp)).trans (qao w 2);have k2:w.heap.size+1<q.heap.size:=by omega
    have aY:=hid aB;go_wp2_with fail
    clear bc bj ao bg aD aB aU G ax;go_region_held3 (fun w'=>w'.cell? ⟨w.heap.size+1,0,none⟩=some (.int .u64 total)∧w'.cell? ⟨w.heap.size+1,1,none⟩=some (.int .u64 leaf))
      (first|go_keep|exact⟨(al.cell (p:=⟨w.heap.size+1,0,none⟩) k2).trans c0,(al.cell (p:=⟨w.heap.size+1,1,none⟩) k2).trans c1⟩|exact⟨(Z.cell (p:=⟨w.heap.size+1,0,none⟩) k2).trans c0,(Z.cell (p:=⟨w.heap.size+1,1,none⟩) k2).trans c1⟩|exact⟨(ag.cell (p:=⟨w.heap.size+1,0,none⟩) k2).trans c0,(ag.cell (p:=⟨w.heap.size+1,1,none⟩) k2).trans c1⟩)
      (first
        | (go_at_call_of 89 (Value.int .u64 total);refine(Ju total a4 _).mono ?_;rintro e wa ⟨va,rfl,ak,aW⟩;have ag:Below q.heap.size q wa:=(by refine Below.trans ?_ (aW.mono (by simp));repeat(first|exact Below.refl _ _|refine Below.drew ?_));have bq:=ag.size;have ad:wa.ownsRow q.heap.size 5 1 va 8 ((qD total 8).map qo):=ownsRow_le ak (by simp);clear ak aW)
        | (go_at_call_of 89 (Value.int .u64 leaf);refine(Ju leaf aH _).mono ?_;rintro e wb ⟨vb,rfl,am,aZ⟩;have ah:Below wa.heap.size wa wb:=(by refine Below.trans ?_ (aZ.mono (by simp));repeat(first|exact Below.refl _ _|refine Below.drew ?_));have Z:Below q.heap.size q wb:=ag.trans (ah.mono bq);have I:wb.ownsRow q.heap.size 5 1 va 8 ((qD total 8).map qo):=Yd ad (fun g _ g2=>ah.block g g2);have O:=qeG am (by simp[qo,Value.oneCell']);clear am aZ)
        | (refine qap (by rfl) _ _ _ (by rfl) q q.heap.size rfl (by first|exact Z|exact Z.drew|exact Z.drew.drew) 5 i0 (.int .u8 0) 1 Tryz.underlying24 bn ba be bd rfl va 8 ((qD total 8).map qo) (by rfl) (by first|exact I|exact I.drew|exact I.drew.drew) vb 8 ((qD leaf 8).map qo) (by rfl) (by first|exact O|exact O.below Br.drew|exact O.below Br.drew.drew) (by unfold maxLen;omega) (by omega) ?_;intro vc wc ai al))
    have aL:wc.ownsRow q.heap.size 5 1 vc (ya total leaf ss 0).length ((ya total leaf ss 0).map qo):=by
      have e:(ya total leaf ss 0).length=8+8:=by rw[zJ];rfl
      have e2:(ya total leaf ss 0).map qo=(qD total 8).map qo++(qD leaf 8).map qo:=by simp[ya,ye]
      rw[e,e2];exact ai
    have bw:wc.cell? ⟨w.heap.size+1,2,none⟩=some (.slice ua ss.length uc):=(al.cell (p:=⟨w.heap.size+1,2,none⟩) k2).trans c2;obtain⟨bf,aA⟩:=aY.out;subst bf;have az:=Je (i:=t.i.toNat) ho (by omega) (fun j hj d hd=>by have:=(aA j (by omega)).2.2 d hd;omega);have HL:=hid az;have bp:=hid aA;clear ai I O ag Z ah ad az aA;obtain⟨bu,ou,rfl,aV,aC⟩:=aR.resolve_left (fun e=>by rw[e]at aE;simp at aE);have HU:=hid aC;have HO:=hid ho;clear aR aC ho ay;go_wp2_with fail
    go_loopw [42,8] (fun i o wr=> ∃(j:Nat) (v:Value),i= .int .i64 j∧o=v∧j≤ss.length∧wr.ownsRow q.heap.size 5 1 v (ya total leaf ss j).length ((ya total leaf ss j).map qo)∧Below q.heap.size q wr) (fun i _ _=>ss.length - (intOf i).toNat)
    case atStart=>exact⟨0,vc,rfl,rfl,by omega,aL,al⟩
    case round=>
      obtain⟨j,v,rfl,rfl,hj,aw,hb⟩:=hrel;have bl:=hb.size;have aG:Below w.heap.size w wr:=an.trans (hb.mono (by omega));by_cases aP:j<ss.length
      · obtain⟨cu,cv,ru,rv⟩:=HU.out j aP
        have br:wr.cell? ⟨bu,ou+j*2,none⟩=some (U j):=(aG.cell (p:=⟨bu,_,none⟩) aV).trans cu;have bb:wr.cell? ⟨bu,ou+j*2+1,none⟩=some (V j):=(aG.cell (p:=⟨bu,_,none⟩) aV).trans cv;have aM:=hid ru;have aN:=hid rv;obtain⟨au,ku,VU,eu, -, -⟩:=ru;obtain⟨av,kv,VV,ev, -, -⟩:=rv;rw[eu]at br aM;rw[ev]at bb aN;clear cu cv eu ev;obtain⟨⟨lu, -⟩,lv, -⟩:=HO.out.2 _ (Zx aP);have hL:=HL.out j hj;have aj:=(bp.out j (by omega)).2.2;have aS:=hid aj;have aT:=yo (i:=t.i.toNat) (ds:=(qA ss j).1) (fun d hd=>by have:=aj d (List.mem_append_left _ hd);omega);have aO:=yo (i:=t.i.toNat) (ds:=(qA ss j).2) (fun d hd=>by have:=aj d (List.mem_append_right _ hd);omega);have aX:=hid aT;have bi:=hid aO;clear aj aT aO;generalize bo:(qA ss j).1.length=nb at*;generalize bs:(qA ss j).2.length=na at*;go_wp2_with fail
        have aK:=aw.alloc (Obj.cells #[.slice au nb ku,.slice av na kv] 69);have bh:Below q.heap.size q (wr.alloc (Obj.cells #[.slice au nb ku,.slice av na kv] 69)):=hb.alloc bl _;have aI:=Wn wr (Obj.cells #[.slice au nb ku,.slice av na kv] 69);generalize wr.heap.size=N at*;go_loopw [49,8] (fun i o wr=> ∃(k:Nat) (v:Value),i= .int .i64 k∧o=v∧k≤nb∧wr.ownsRow q.heap.size 5 1 v (ya total leaf ss j++Qb (qA ss j).1 k).length ((ya total leaf ss j++Qb (qA ss j).1 k).map qo)∧Below q.heap.size q wr∧wr.heap[N]? =some (Obj.cells #[.slice au nb ku,.slice av na kv] 69 (0,0))) (fun i _ _=>nb - (intOf i).toNat)
        case atStart=>exact⟨0,_,rfl,rfl,by omega,by simpa [Qb] using aK,bh,aI⟩
        case round=>
          obtain⟨k,v1,rfl,rfl,hk,X,G,S⟩:=hrel;have ay:=G.size;have bm:=(Ai S).1;have a8:Below w.heap.size w wr:=an.trans (G.mono (by omega));by_cases a9:k<nb
          · obtain⟨-,b',o',x,cx,rfl,bk,aJ,ap⟩:=pRowsAt.elem (aM.out.below a8) a9
            have J:(QH (qA ss j).1 k).length=t.i.toNat:=by have:=aS.out _ (List.mem_append_left _ (yQ (ds:=(qA ss j).1) (k:=k) (by omega)));omega
            have ar:QH (qA ss j).1 k≠[]:=fun e=>by rw[e]at J;simp at J;omega
            have a3:k*t.i.toNat≤1048576*64:=Nat.mul_le_mul (by omega) (by omega);have aq:(ya total leaf ss j++Qb (qA ss j).1 k).length+(QH (qA ss j).1 k).length≤1099511627776:=by
              rw[List.length_append,zJ,aX.out k (by omega),J];omega
            clear J;go_wp2_with (at_builtin;refine YZ rfl _ _ rfl q.heap.size (ya total leaf ss j++Qb (qA ss j).1 k) _ rfl X _ (QH (qA ss j).1 k) rfl ap ar aq (by omega) ?_;intro v' w' ab Y)
            go_roundw
            case measure=>simp[intOf];omega
            refine⟨k+1,v',rfl,rfl,by omega,?_,G.grown Y (by omega) (fun k e=>(X.lt k e).1),(Y.block N bm (qdJ X S (by decide))).trans S⟩;rw[qem];exact ab
          · obtain rfl:k=nb:=by omega
            have bx:wr.cell? ⟨N,1,none⟩=some (.slice av na kv):=qd S 1;go_wp2_with fail
            go_loopw [60,8] (fun i o wr=> ∃(D:Nat) (v:Value),i= .int .i64 D∧o=v∧D≤na∧wr.ownsRow q.heap.size 5 1 v (ya total leaf ss j++Qb (qA ss j).1 k++Qb (qA ss j).2 D).length ((ya total leaf ss j++Qb (qA ss j).1 k++Qb (qA ss j).2 D).map qo)∧Below q.heap.size q wr) (fun i _ _=>na - (intOf i).toNat)
            case atStart=>exact⟨0,_,rfl,rfl,by omega,by simpa [Qb] using X,G⟩
            case round=>
              obtain⟨D,v2,rfl,rfl,bA,aa,ac⟩:=hrel;have bv:=ac.size;have a5:Below w.heap.size w wr:=an.trans (ac.mono (by omega));by_cases a7:D<na
              · obtain⟨-,b',o',x,cx,rfl,bk,aJ,ap⟩:=pRowsAt.elem (aN.out.below a5) a7
                have J:(QH (qA ss j).2 D).length=t.i.toNat:=by have:=aS.out _ (List.mem_append_right _ (yQ (ds:=(qA ss j).2) (k:=D) (by omega)));omega
                have ar:QH (qA ss j).2 D≠[]:=fun e=>by rw[e]at J;simp at J;omega
                have a3:k*t.i.toNat≤1048576*64:=Nat.mul_le_mul (by omega) (by omega);have bt:D*t.i.toNat≤1048576*64:=Nat.mul_le_mul (by omega) (by omega);have aq:(ya total leaf ss j++Qb (qA ss j).1 k++Qb (qA ss j).2 D).length+(QH (qA ss j).2 D).length≤1099511627776:=by
                  rw[List.length_append,List.length_append,zJ,aX.out k (by omega),bi.out D (by omega),J];omega
                clear J;go_wp2_with (at_builtin;refine YZ rfl _ _ rfl q.heap.size (ya total leaf ss j++Qb (qA ss j).1 k++Qb (qA ss j).2 D) _ rfl aa _ (QH (qA ss j).2 D) rfl ap ar aq (by omega) ?_;intro v' w' ab Y)
                go_roundw
                case measure=>simp[intOf];omega
                refine⟨D+1,v',rfl,rfl,by omega,?_,ac.grown Y (by omega) (fun k e=>(aa.lt k e).1)⟩;rw[qem];exact ab
              · obtain rfl:D=na:=by omega
                go_wp2
                refine⟨⟨j+1,_,rfl,rfl,by omega,?_,ac⟩,by simp[intOf];omega⟩;rw[qf0,bo,bs];exact aa
      · obtain rfl:j=ss.length:=by omega
        go_wp2
        exact Bp (results_tmp2 (fn:=Tryz.f53) (t:=4) (u:=5) rfl _ _ _) rfl ⟨_,_,rfl,.inr ⟨aY.out,rfl,qdL aw (by omega)⟩,aG⟩
def pKeeps (Ts:List TypeId)(w w':World):Prop:=w.heap.size≤w'.heap.size∧ ∀(g:Nat) (c:Array Value) (T:TypeId),T∈Ts→w.heap[g]? =some (Obj.cells c T (0,0))→w'.heap[g]? =some (Obj.cells c T (0,0))
theorem jt {q:List TypeId}{w w':World}(h:Below w.heap.size w w'):pKeeps q w w':=
  ⟨h.size,fun g _ _ _ o=>(h.block g (Ai o).1).trans o⟩
theorem pKeeps.trans {o:List TypeId}{w w1 r:World}(q:pKeeps o w w1)(D:pKeeps o w1 r):pKeeps o w r:=
  ⟨Nat.le_trans q.1 D.1,fun g c T G I=>D.2 g c T G (q.2 g c T G I)⟩
theorem qeV {q:List TypeId}{w w':World}{B size n:Nat}{e:TypeId}{v:Value}{xs:List Value}(h:w.ownsRow B e size v n xs)(r:w.grownBy w' v.ownBlock)(D: ∀T∈q,T≠e):pKeeps q w w':=
  ⟨r.size,fun g _ T G o=>(r.block g (Ai o).1 (qdJ h o (D T G))).trans o⟩
theorem Y7 {q:List TypeId}{w:World}{b i:Nat}{c:Array Value}{T:TypeId}{fr:Nat×Nat}(G:w.heap[b]? =some (.cells c T fr))(I:T∉q)(v:Value):pKeeps q w (w.setCell ⟨b,i,none⟩ v):=by
  refine⟨by simp,fun g J T' r o=>?_⟩;rw[heap_setCell_other w ⟨b,i,none⟩ g v (fun e=>?_)]
  · exact o
  · have D:g=b:=e
    rw[D,G]at o;simp only[Option.some.injEq,Obj.cells.injEq]at o;exact I (o.2.1▸r)
theorem qeW {q:List TypeId}(w:World)(o:Obj):pKeeps q w (w.alloc o):=jt ((Below.refl _ w).alloc Nl o)
def DigT (w:World)(v:Value)(zs:List Int):Prop:=
  ∃b off cap c,v= .slice (some ⟨b,off,none⟩) zs.length cap∧w.heap[b]? =some (.cells c 5 (0,0))∧ ∀i,i<zs.length→c[off+i]? =some (.int .u8 (qp zs i))
theorem DigT.keep {w w':World}{v:Value}{zs:List Int}{o:List TypeId}(h:DigT w v zs)(I:pKeeps o w w')(G:5∈o):DigT w' v zs:=by
  obtain⟨b,off,q,c,e,r,D⟩:=h;exact⟨b,off,q,c,e,I.2 b c _ G r,D⟩
theorem DigT.holds {w:World}{v:Value}{zs:List Int}(h:DigT w v zs):Holds8 w v zs:=by
  obtain⟨b,off,o,c,e,q,r⟩:=h;exact⟨_,o,e,.inr ⟨b,off,rfl,(Ai q).1,fun i hi=>by rw[qd q];exact r i hi⟩⟩
def RowT (w:World)(v:Value)(ds:List (List Int)):Prop:=
  ∃(a:Option Addr) (cap:Nat) (V:Nat→Value),v= .slice a ds.length cap∧(a=none→cap=0)∧(ds=[]∨ ∃b c,a=some ⟨b,0,none⟩∧w.heap[b]? =some (.cells c 24 (0,0))∧ ∀i,i<ds.length→c[i]? =some (V i)∧DigT w (V i) (QH ds i))
theorem RowT.keep {w w':World}{v:Value}{ds:List (List Int)}{o:List TypeId}(h:RowT w v ds)(q:pKeeps o w w')(O:5∈o)(D:24∈o):RowT w' v ds:=by
  obtain⟨a,r,V,e,G,h⟩:=h;refine⟨a,r,V,e,G,?_⟩;rcases h with h|⟨b,c,I,J,h⟩
  · exact .inl h
  · exact .inr ⟨b,c,I,q.2 b c _ D J,fun i hi=>⟨(h i hi).1,(h i hi).2.keep q O⟩⟩
theorem RowT.rows {w:World}{v:Value}{ds:List (List Int)}(h:RowT w v ds):pRowsAt w v ds:=by
  obtain⟨a,o,V,e,r,h⟩:=h;refine⟨a,o,V,e,r,?_⟩;rcases h with h|⟨b,c,D,q,h⟩
  · exact .inl h
  · exact .inr ⟨b,0,D,(Ai q).1,fun i hi=>⟨by rw[qd q,Nat.zero_add];exact(h i hi).1,(h i hi).2.holds⟩⟩
theorem qen {w:World}{B:Nat}{v:Value}{ds:List (List Int)}{xs:List Value}(h:w.ownsRow B 24 1 v ds.length xs)(D: ∀i,i<ds.length→ ∃u,xs[i]? =some u∧DigT w u (QH ds i)):RowT w v ds:=by
  rcases h.2 with⟨rfl,e⟩|⟨g,r,o,rfl, -,G,O, -, -,J⟩
  · exact⟨none,0,fun _=> .slice none 0 0,by rw[e],fun _=>rfl,.inl (List.eq_nil_of_length_eq_zero e)⟩
  · refine⟨some ⟨g,0,none⟩,r,fun i=>(xs.getD i (.slice none 0 0)),rfl,fun e=>absurd e (by simp),.inr ⟨g,o,rfl,G,fun i hi=>?_⟩⟩
    obtain⟨u,q,I⟩:=D i hi;have e:xs.getD i (.slice none 0 0)=u:=by rw[Lg,q];rfl
    show o[i]? =some (xs.getD i (.slice none 0 0))∧DigT w (xs.getD i (.slice none 0 0)) (QH ds i)
    rw[e];refine⟨?_,I⟩;rw[←J,List.getElem?_take,if_pos (by omega)]at q;simpa using q
def digZ (zs:List Int)(at_ size:Nat):List Int:=(zs.drop at_).take size
def Ja (zs:List Int)(at_ size n:Nat):List (List Int):=(List.range n).map fun k=>digZ zs (at_+k*size) size
theorem yb (zs:List Int)(at_ size n:Nat):(Ja zs at_ size n).length=n:=by simp[Ja]
theorem qb9 {zs:List Int}{at_ size n k:Nat}(h:k<n):QH (Ja zs at_ size n) k=digZ zs (at_+k*size) size:=by
  unfold QH Ja;simp[Lg,h]
theorem qe9 {zs:List Int}{at_ size:Nat}(h:at_+size≤zs.length):(digZ zs at_ size).length=size:=by
  unfold digZ;rw[List.length_take,List.length_drop];omega
theorem qiS {zs:List Int}{at_ size i:Nat}(h:i<size)(o:at_+size≤zs.length):qp (digZ zs at_ size) i=qp zs (at_+i):=by
  unfold digZ qp;rw[Lg,Lg,List.getElem?_take,if_pos h,List.getElem?_drop]
theorem qc1 {k n size:Nat}(h:k<n):k*size+size≤n*size:=by
  have:=Nat.mul_le_mul_right size (show k+1≤n by omega)
  rw[Nat.add_mul,Nat.one_mul]at this;exact this
def jE (B L p:Nat)(v:Value):Prop:= ∃q,v= .slice (some ⟨B,q,none⟩) (L - p) (L - p)∧(p<L→q=p)
def qd0 (B p size:Nat)(k:Nat):List Value:=(List.range k).map fun j=> .slice (some ⟨B,p+j*size,none⟩) size size
theorem qhJ (B p size k:Nat):qd0 B p size (k+1)=qd0 B p size k++[.slice (some ⟨B,p+k*size,none⟩) size size]:=by
  unfold qd0;rw[List.range_succ,List.map_append];rfl
theorem qjt (B L p:Nat)(v:Value)(n size:Nat)(w:World)(hv:jE B L p v)(hs:1≤size)(aa:size≤64)(hn:p+n*size≤L)(hL:L≤134217728):
    Calls Tryz.prog 91 #[v,.int .u64 n,.int .i64 size] w fun e w'=> ∃l r,e= .returned (.tuple #[l,r])∧w'.ownsRow w.heap.size 24 1 l n (qd0 B p size n)∧jE B L (p+n*size) r∧Below w.heap.size w w':=by
  obtain⟨Z,hi,U,S,Y⟩:=info_parts qaZ;have ab:n≤n*size:=Nat.le_mul_of_pos_right n hs;obtain⟨q,rfl,hq⟩:=hv;go_enter Tryz.func91,Tryz.ntmps91
  go_wp2_with fail
  go_loopw [0,8,10] (fun b o i wr=> ∃(k:Nat),jE B L (p+k*size) b∧i= .int .u64 k∧k≤n∧wr.ownsRow w.heap.size 24 1 o k (qd0 B p size k)∧Below w.heap.size w wr) (fun _ _ i _=>n - (intOf i).toNat)
  case atStart=>exact⟨0,⟨q,by simp,by simpa using hq⟩,rfl,by omega,Wo _ _ _ _,Below.refl _ _⟩
  case round=>
    obtain⟨k,⟨q',rfl,J⟩,rfl,hk,D,O⟩:=hrel;have X:=O.size;by_cases V:k<n
    · have hm:=qc1 (size:=size) V
      obtain rfl:q'=p+k*size:=J (by omega);have h0:(0:Int)≤(size:Int):=Int.natCast_nonneg _;have e1:=hid (qhJ B p size k);go_wp2_with (at_builtin;refine wpList_append_own _ rfl _ _ 67 rfl w.heap.size 24 Z (.slice none 0 0) 1 24 Tryz.underlying67 hi U S Y rfl (by decide) _ _ _ rfl (D.alloc _) ⟨wr.heap.size,0,none⟩ 1 1 [.slice (some ⟨B,p+k*size,none⟩) size size] rfl rfl (cell_one_new _ _ _) (by simp[Value.oneCell']) (by unfold maxLen;omega) (by omega) (by simp;omega) ?_;intro v' w' I G _)
      have e:p+(k+1)*size=p+k*size+size:=by rw[Nat.add_mul,Nat.one_mul,Nat.add_assoc]
      refine⟨⟨k+1,?_,rfl,by omega,?_,(O.alloc X _).grown G (by simp;omega) (fun k e=>(D.lt k e).1)⟩,by simp[intOf];omega⟩
      · rw[e]
        by_cases h:L - (p+k*size)=size
        · rw[if_pos h];exact⟨_,by rw[←Nat.sub_add_eq],fun h'=>by omega⟩
        · rw[if_neg h];exact⟨_,by rw[←Nat.sub_add_eq],fun _=>rfl⟩
      · rw[e1.out];exact I
    · obtain rfl:k=n:=by omega
      go_wp2
      exact Bp (results_tmp2 (fn:=Tryz.f91) (t:=6) (u:=7) rfl _ _ _) rfl ⟨_,_,rfl,D,⟨_,rfl,J⟩,O⟩
theorem qaP {w:World}{G B p size n:Nat}{l:Value}{o:List Int}(h:w.ownsRow G 24 1 l n (qd0 B p size n))(I:w.heap[B]? =some (Obj.cells (o.map qo).toArray 5 (0,0)))(O:p+n*size≤o.length):RowT w l (Ja o p size n):=by
  refine qen (B:=G) (xs:=qd0 B p size n) (by rw[yb];exact h) (fun i hi=>?_);rw[yb]at hi;have J:=qc1 (size:=size) hi;refine⟨.slice (some ⟨B,p+i*size,none⟩) size size,by unfold qd0;simp[hi],?_⟩;rw[qb9 hi];have D:(digZ o (p+i*size) size).length=size:=qe9 (by omega);refine⟨B,p+i*size,size,_,by rw[D],I,fun j q=>?_⟩;rw[D]at q;rw[qiS q (by omega)];have r:p+i*size+j<o.length:=by omega
  simp[r,qo,qp,Lg]
end Go.Proofs.YthjoojnlnlmljaaGreat
namespace Go.Proofs.YthjoojnlnlmljaaGreat
open Go.ChangeShapes Go.WideShapes Go.ChangeAt Go.RowKit Go.Joins Go.Shelf Go.Maps
open Go.Lib (hid)
theorem qjB {f p total l:Nat}{L:List Nat}(h:RowsIs f p (lvs total l) L){k A:Nat}(J:k+1<L.length)(S:A<nth L (k+1)):
    (QV f l total L (k+1) A).to_+nth L (k+1)≤nth L k+(QV f l total L (k+1) A).frm+1:=by
  by_cases q:nth L (k+1)=1
  · rw[ZG ⟨by omega,q⟩]
    show nth L (k+1 - 1)+nth L (k+1)≤nth L k+0+1
    rw[Nat.add_sub_cancel,q];omega
  · have G: ¬(1≤k+1∧nth L (k+1)=1):=fun h=>q h.2
    obtain⟨e,U⟩:=h.next_or J q;have o:1≤f:=by omega
    by_cases D:A=nth L (k+1) - 1
    · rw[Yl G D]
      simp only[Nat.succ_ne_zero,if_false,Nat.add_sub_cancel];have:A≤A*f:=Nat.le_mul_of_pos_right A o
      omega
    · rw[YI G D]
      simp only[Nat.succ_ne_zero,if_false];have r:=J4 (m:=nth L k) (d:=f) (k:=nth L (k+1) - 1) o (by rw[←e];omega);obtain⟨c,I⟩: ∃c,nth L (k+1)=c+2:=⟨nth L (k+1) - 2,by omega⟩;rw[I]at r⊢;have O:(c+2 - 1)*f=c*f+f:=by rw[show c+2 - 1=c+1 by omega,Nat.add_mul,Nat.one_mul]
      rw[O]at r;have:c≤c*f:=Nat.le_mul_of_pos_right c o
      rw[Nat.add_mul,Nat.one_mul];omega
structure KidFacts (t:TreeV)(total leaf k:Nat):Prop where
  le:(qx t total leaf (k+1)).frm≤Qw t.fn (t.rowsOf total) leaf k
  lt:Qw t.fn (t.rowsOf total) leaf k<(qx t total leaf (k+1)).to_
  to:((qx t total leaf (k+1)).to_:Int)≤18446744073709551615
  few:(qx t total leaf (k+1)).to_+nth (t.rowsOf total) (k+1)≤nth (t.rowsOf total) k+(qx t total leaf (k+1)).frm+1
theorem zi {t:TreeV}(X:0≤t.l∧t.l≤4294967295){total:Nat}(V:(total:Int)≤18446744073709551615){leaf:Nat}(h:t.spotE total 0 leaf=0):
    (∀k,k+1<(t.rowsOf total).length→KidFacts t total leaf k)∧(nth (t.rowsOf total) 0:Int)≤18446744073709551615∧1≤t.i∧t.i≤64∧t.validE=0:=by
  have r:t.err total=0:=by
    by_cases S:t.err total=0
    · exact S
    · unfold TreeV.spotE at h;rw[if_pos S]at h;exact absurd h S
  have o:leaf<nth (t.rowsOf total) 0:=by
    unfold TreeV.spotE at h;rw[if_neg (by simp[r])]at h;by_cases J:t.there total 0 leaf
    · exact J.2.2
    · rw[if_neg J]at h;omega
  obtain⟨D,Z,Y,U⟩:=Qu X r;have I:=qn U;have q:=qF r;refine⟨fun k G=>?_,Y9 D V q 0 (by have:=q.len;omega),by omega,?_,U⟩
  · have O:=(qaC (l:=t.ln) q G (yU q o k (by omega))).2
    have h2:(qx t total leaf (k+1)).to_≤nth (t.rowsOf total) k:=zH D q G (by omega) (yU q o _ G);have h3:=Y9 D V q k (by omega);exact⟨O.1,O.2,by omega,qjB q G (yU q o _ G)⟩
  · rcases I.1 with e|e<;>rw[e]at I<;>simp[Zb]at I<;>omega
def chN (t:TreeV)(total leaf k:Nat):Nat:=Qw t.fn (t.rowsOf total) leaf k - (qx t total leaf (k+1)).frm
def afN (t:TreeV)(total leaf k:Nat):Nat:=(qx t total leaf (k+1)).to_ - Qw t.fn (t.rowsOf total) leaf k - 1
def QI (t:TreeV)(total leaf:Nat):Nat→Nat
  | 0=>0
  | k+1=>QI t total leaf k+(chN t total leaf k+afN t total leaf k)
theorem qeM {t:TreeV}{total leaf n:Nat}(o: ∀k,k+1<n→KidFacts t total leaf k): ∀k,k<n→QI t total leaf k+nth (t.rowsOf total) k≤nth (t.rowsOf total) 0
  | 0,_=>by simp[QI]
  | k+1,h=>by
    have r:=qeM o k (by omega);obtain⟨q,I,D,G⟩:=o k h;simp only[QI,chN,afN];omega
def chI (t:TreeV)(total leaf k:Nat):Int:=(Qw t.fn (t.rowsOf total) leaf k:Int) - ((qx t total leaf (k+1)).frm:Int)
def afI (t:TreeV)(total leaf k:Nat):Int:=(afN t total leaf k:Int)
theorem qd2 {t:TreeV}{total leaf k:Nat}(h:KidFacts t total leaf k):chI t total leaf k=(chN t total leaf k:Int):=by
  unfold chI chN;have:=h.le
  omega
theorem qhZ {t:TreeV}{total leaf:Nat}{w:World}{b g m q:Nat}(h:w.ownsRow b 127 7 (.slice (some ⟨g,0,none⟩) m q) m (yV t total leaf m)):
    StagesIs w g m (fun j=>((qx t total leaf (j+1)).row:Int)) (fun j=>((qx t total leaf (j+1)).at_:Int)) (fun j=>((qx t total leaf (j+1)).frm:Int)) (fun j=>((qx t total leaf (j+1)).to_:Int)) (chI t total leaf) (fun j=>(qx t total leaf (j+1)).last) (fun j=>(qx t total leaf (j+1)).root):=by
  refine⟨(h.lt g (by simp[Value.ownBlock])).2,fun j o=>?_⟩;refine⟨?_,?_,?_,?_,?_,?_,?_⟩
  · rw[show j*7=7*j+0 by omega];exact(h.cellAt (7*j+0) (by omega)).trans (QE t total leaf m j 0 o (by omega))
  · rw[show j*7+1=7*j+1 by omega];exact(h.cellAt (7*j+1) (by omega)).trans (QE t total leaf m j 1 o (by omega))
  · rw[show j*7+2=7*j+2 by omega];exact(h.cellAt (7*j+2) (by omega)).trans (QE t total leaf m j 2 o (by omega))
  · rw[show j*7+3=7*j+3 by omega];exact(h.cellAt (7*j+3) (by omega)).trans (QE t total leaf m j 3 o (by omega))
  · rw[show j*7+4=7*j+4 by omega];exact(h.cellAt (7*j+4) (by omega)).trans (QE t total leaf m j 4 o (by omega))
  · rw[show j*7+5=7*j+5 by omega];exact(h.cellAt (7*j+5) (by omega)).trans (QE t total leaf m j 5 o (by omega))
  · rw[show j*7+6=7*j+6 by omega];exact(h.cellAt (7*j+6) (by omega)).trans (ZF t total leaf m j o)
theorem zQ (t:TreeV)(D:0≤t.l∧t.l≤4294967295)(total:Nat)(G:(total:Int)≤18446744073709551615)(leaf:Nat)(J:t.spotE total 0 leaf=0)(w:World):
    Calls Tryz.prog 68 #[t.val,.int .u64 total,.int .u64 leaf] w fun e w'=> ∃g r,e= .returned (.tuple #[.slice (some ⟨g,0,none⟩) ((t.rowsOf total).length - 1) r,.int .i64 0])∧
      StagesIs w' g ((t.rowsOf total).length - 1) (fun j=>((qx t total leaf (j+1)).row:Int)) (fun j=>((qx t total leaf (j+1)).at_:Int)) (fun j=>((qx t total leaf (j+1)).frm:Int)) (fun j=>((qx t total leaf (j+1)).to_:Int)) (chI t total leaf) (fun j=>(qx t total leaf (j+1)).last) (fun j=>(qx t total leaf (j+1)).root)∧Below w.heap.size w w':=by
  have F:=Y4 D G J;refine(qhS t total leaf F.two F.most (hid fun k o w=>?_) (hid fun k o w=>?_) (hid F.cells) (hid F.child) w).mono ?_
  · have:=zl t D total G (k:Nat) (Qw t.fn (t.rowsOf total) leaf k) w
    rw[(F.spot k o).1,(F.spot k o).2]at this;exact this
  · have:=qbP t D total G (k:Nat) (Qw t.fn (t.rowsOf total) leaf k) (F.at_ k (by omega)) w
    rw[(F.par k o).1,(F.par k o).2]at this;exact this
  · rintro e w' ⟨v,rfl,q,I⟩
    obtain⟨g,r,rfl⟩:=ownsRow_form q (by have:=F.two;omega);exact⟨g,r,rfl,qhZ q,I⟩
theorem qbs (t:TreeV)(r:0≤t.l∧t.l≤4294967295)(total:Nat)(q:(total:Int)≤18446744073709551615)(leaf:Nat)(D:t.spotE total 0 leaf≠0)(w:World):
    Calls Tryz.prog 68 #[t.val,.int .u64 total,.int .u64 leaf] w fun e w'=>e= .returned (.tuple #[.slice none 0 0,.int .i64 (t.spotE total 0 leaf)])∧Below w.heap.size w w':=by
  have o:=zl t r total q 0 leaf;simp only[Y1]at o;exact qgD t total leaf (hid o) (by rw[bne_iff_ne];exact D) w
theorem qbY {t:TreeV}{total leaf:Nat}{n:Nat}(o: ∀k,k+1<n→KidFacts t total leaf k): ∀j,j<n - 1→0≤((qx t total leaf (j+1)).frm:Int)∧((qx t total leaf (j+1)).frm:Int)≤((qx t total leaf (j+1)).to_:Int)∧((qx t total leaf (j+1)).to_:Int)≤18446744073709551615∧0≤chI t total leaf j∧0≤afI t total leaf j∧
    afI t total leaf j=((qx t total leaf (j+1)).to_:Int) - ((qx t total leaf (j+1)).frm:Int) - chI t total leaf j - 1:=by
  intro j r;obtain⟨q,I,D,G⟩:=o j (by omega);unfold chI afI afN;omega
theorem qit (t:TreeV)(D:0≤t.l∧t.l≤4294967295)(total leaf:Nat)(q:(total:Int)≤18446744073709551615)(o:(leaf:Int)≤18446744073709551615)(u:Value)(ss:List Qh)(w:World)(Z:StepsAt w u ss)(O:yZ 1048576 ss)(G:t.spotE total 0 leaf=0)
    (Y:Zr t.i ((t.rowsOf total).length - 1) (chI t total leaf) (afI t total leaf) ss):
    Calls Tryz.prog 53 #[t.val,.agg #[.int .u64 total,.int .u64 leaf,u]] w fun r w'=> ∃v,r= .returned (.tuple #[v,.int .i64 0])∧w'.ownsRow w.heap.size 5 1 v (ya total leaf ss ss.length).length ((ya total leaf ss ss.length).map qo)∧Below w.heap.size w w':=by
  have F:=Y4 D q G;obtain⟨V,h0,X,S, -⟩:=zi D q G;have f2:=F.two;have f3:=F.most;refine(qgK t total leaf q o u ss w Z O ((t.rowsOf total).length - 1) (by omega) (by omega) ⟨X,S⟩ _ _ _ _ (chI t total leaf) (afI t total leaf) _ _ (hid (zQ t D total q leaf G)) (hid (qbY V))).mono ?_;rintro r w' ⟨v,e,rfl,h,U⟩
  rcases h with⟨I,rfl,rfl⟩|⟨I,rfl,J⟩
  · exact absurd Y I
  · exact⟨v,rfl,J,U⟩
end Go.Proofs.YthjoojnlnlmljaaGreat
namespace Go.Proofs.YthjoojnlnlmljaaGreat
open Go.ChangeShapes Go.WideShapes Go.ChangeAt Go.RowKit Go.Joins Go.Shelf Go.Maps
open Go.Lib (hid)
attribute [local go_sem] Oper.semAt_some
theorem Yi {W:World}{b:Nat}{a0 a1 a2:Value}{T:TypeId}{fr:Nat×Nat}(h:W.heap[b]? =some (Obj.cells #[a0,a1,a2] T fr))(o q r:Value):
    (((W.setCell ⟨b,0,none⟩ o).setCell ⟨b,1,none⟩ q).setCell ⟨b,2,none⟩ r).heap[b]? =some (Obj.cells #[o,q,r] T fr):=
  block_setCell (block_setCell (block_setCell h o) q) r
theorem Yj {B:Nat}{a W:World}(h:Below B a W){b:Nat}(o:B≤b)(q r D:Value):
    Below B a (((W.setCell ⟨b,0,none⟩ q).setCell ⟨b,1,none⟩ r).setCell ⟨b,2,none⟩ D):=
  ((h.setCell (p:=⟨b,0,none⟩) o q).setCell (p:=⟨b,1,none⟩) o r).setCell (p:=⟨b,2,none⟩) o D
theorem qf2 {W:World}{b c:Nat}(h:c≠b)(o q r:Value):(((W.setCell ⟨b,0,none⟩ o).setCell ⟨b,1,none⟩ q).setCell ⟨b,2,none⟩ r).heap[c]? =W.heap[c]? :=
  (Below.heap_setCell _ _ _ _ h).trans ((Below.heap_setCell _ _ _ _ h).trans (Below.heap_setCell _ _ _ _ h))
theorem qga {I:List TypeId}{W:World}{b:Nat}{c:Array Value}{T:TypeId}{fr:Nat×Nat}(r:W.heap[b]? =some (Obj.cells c T fr))(D:T∉I)(o q G:Value):
    pKeeps I W (((W.setCell ⟨b,0,none⟩ o).setCell ⟨b,1,none⟩ q).setCell ⟨b,2,none⟩ G):=
  ((Y7 r D o).trans (Y7 (block_setCell r o) D q)).trans (Y7 (block_setCell (block_setCell r o) q) D G)
theorem yB {W:World}{b:Nat}{cs:Array Value}{T:TypeId}(h:W.heap[b]? =some (Obj.cells cs T (0,0))):(∀o,W.cell? ⟨b,o,none⟩=cs[o]?)∧(∀o,W.frozen? ⟨b,o,none⟩=false):=
  ⟨fun o=>qd h o,fun o=>by simp[World.frozen?,h]⟩
theorem yL {P:Program}{fn:Func}{tmps:Array Value}{W:World}{b:Nat}{D G q e:Value}{T:TypeId}{fr:Nat×Nat}
    (I:fn.results= #[.cell 4 55,.tmp 5]) (S:tmps[4]?.getD undef= .pointer (some ⟨b,0,none⟩)) (O:tmps[5]?.getD undef=e)
    (o:W.heap[b]? =some (Obj.cells #[D,G,q] T fr)) (J:P=Tryz.prog):
    (results fn tmps).run P W= .ok (.tuple #[.agg #[D,G,q],e]) W:=by
  subst J;have r:=qd o 0;have c1:=qd o 1;have c2:=qd o 2;simp only[List.getElem?_toArray,List.getElem?_cons_zero,List.getElem?_cons_succ]at r c1 c2;simp[results,I,S,O,go_sem,r,c1,c2]
def QZ (total leaf:Int)(v:Value):Value:= .agg #[.int .u64 total,.int .u64 leaf,v]
theorem qaY (zs:List Int)(v:Value)(at_:Nat)(x:Nat)(o:qO zs at_ 8=(x:Int))(w:World)(h:Holds8 w v zs)(q: ∀z∈zs,0≤z∧z≤255)(D:at_+8≤zs.length)(r:zs.length≤4294967296):
    Calls Tryz.prog 90 #[v,.int .i64 at_] w fun e w'=>e= .returned (.tuple #[.int .u64 x,.int .i64 0])∧w'=w:=by
  have H:=hid (qc3 zs v at_ w h q D r);rw[o]at H;clear h;go_enter Tryz.func90,Tryz.ntmps90
  go_wp2_with fail
  refine H.out.mono ?_;rintro e w1 ⟨rfl,rfl⟩;go_wp2
  exact Bp (results_tmp2 (fn:=Tryz.f90) (t:=4) (u:=5) rfl _ _ _) rfl ⟨rfl,rfl⟩
theorem qbu {w w1:World}{c1 c2:Array Value}{o q:TypeId}(h:Below ((w.alloc (Obj.cells c1 o)).alloc (Obj.cells c2 q)).heap.size ((w.alloc (Obj.cells c1 o)).alloc (Obj.cells c2 q)) w1):
    w1.heap[w.heap.size]? =some (Obj.cells c1 o (0,0))∧w1.heap[w.heap.size+1]? =some (Obj.cells c2 q (0,0))∧Below w.heap.size w w1∧w.heap.size+2≤w1.heap.size:=by
  have r:=h.size;simp at r
  refine⟨?_,?_,qt _ (Below.trans (Br.alloc Nl _) (h.mono (by simp))),by omega⟩
  · rw[h.block _ (by simp;omega)]
    exact(Bh _ _ _ (by simp)).trans (Wn _ _)
  · rw[h.block _ (by simp)]
    exact qz _ _ (by simp)
theorem qdp (t:TreeV)(v:Value)(U:(t.validE != 0)=true)(w:World):
    Calls Tryz.prog 54 #[t.val,v] w fun r w'=>r= .returned (.tuple #[QZ 0 0 (.slice none 0 0),.int .i64 t.validE])∧Below w.heap.size w w':=by
  have G:=hid (YG t);unfold TreeV.val QZ at*;go_enter Tryz.func54,Tryz.ntmps54
  go_wp2_with fail
  refine(G.out _).mono ?_;rintro r w1 ⟨rfl,o⟩;obtain⟨J,q,D,O⟩:=qbu o;obtain⟨V,S⟩:=yB q;have I:=hid q;clear o J q;go_wp2
  exact Bp (yL rfl rfl rfl (b:=w.heap.size+1) (Yi I.out _ _ _) rfl) rfl ⟨rfl,Yj D (by omega) _ _ _⟩
theorem qdq (t:TreeV)(a:Option Addr)(n I:Nat)(O:t.validE=0)(Y:n<16)(w:World):
    Calls Tryz.prog 54 #[t.val,.slice a n I] w fun r w'=>r= .returned (.tuple #[QZ 0 0 (.slice none 0 0),.int .i64 3])∧Below w.heap.size w w':=by
  have D:=hid (YG t);rw[O]at D;unfold TreeV.val QZ at*;go_enter Tryz.func54,Tryz.ntmps54
  go_wp2_with fail
  refine(D.out _).mono ?_;rintro r w1 ⟨rfl,o⟩;obtain⟨S,q,G,U⟩:=qbu o;obtain⟨X,V⟩:=yB q;have J:=hid q;clear o S q;go_wp2
  exact Bp (yL rfl rfl rfl (b:=w.heap.size+1) (Yi J.out _ _ _) rfl) rfl ⟨rfl,Yj G (by omega) _ _ _⟩
theorem qhG (zs:List Int)(p n:Nat):digZ (zs.drop 16) p n=digZ zs (16+p) n:=by
  unfold digZ;rw[List.drop_drop]
theorem qdd (zs:List Int)(p i n:Nat):Ja (zs.drop 16) p i n=Ja zs (16+p) i n:=by
  unfold Ja;refine List.map_congr_left fun k _=>?_
  rw[qhG,Nat.add_assoc]
def StepsT (w:World)(base:Nat)(v:Value)(ss:List Qh):Prop:=
  ∃xs,w.ownsRow base 69 2 v ss.length xs∧ ∀j,j<ss.length→ ∃u u',xs[j*2]? =some u∧xs[j*2+1]? =some u'∧RowT w u (qA ss j).1∧RowT w u' (qA ss j).2
theorem StepsT.at {w:World}{base:Nat}{v:Value}{ss:List Qh}(h:StepsT w base v ss):StepsAt w v ss:=by
  obtain⟨xs,D,J⟩:=h;rcases D.2 with⟨rfl,e⟩|⟨g,G,X,rfl, -,r,Z, -,Y,I⟩
  · exact⟨none,0,fun _=> .slice none 0 0,fun _=> .slice none 0 0,by rw[e],fun _=>rfl,.inl (List.eq_nil_of_length_eq_zero e)⟩
  · refine⟨some ⟨g,0,none⟩,G,fun i=>xs.getD (i*2) (.slice none 0 0),fun i=>xs.getD (i*2+1) (.slice none 0 0),rfl,fun e=>absurd e (by simp),.inr ⟨g,0,rfl,(Ai r).1,fun i hi=>?_⟩⟩
    obtain⟨u,u',o,q,U,V⟩:=J i hi;have S:xs.getD (i*2) (.slice none 0 0)=u:=by rw[Lg,o];rfl
    have O:xs.getD (i*2+1) (.slice none 0 0)=u':=by rw[Lg,q];rfl
    dsimp only;rw[S,O];refine⟨?_,?_,U.rows,V.rows⟩
    · rw[qd r,Nat.zero_add]
      rw[←I,List.getElem?_take,if_pos (by omega)]at o;simpa using o
    · rw[qd r,Nat.zero_add]
      rw[←I,List.getElem?_take,if_pos (by omega)]at q;simpa using q
theorem qcW {ss:List Qh}{s:Qh}{j:Nat}(h:j<ss.length):qA (ss++[s]) j=qA ss j:=by
  unfold qA;rw[Lg,Lg,List.getElem?_append_left h]
theorem qbS {ss:List Qh}{s:Qh}:qA (ss++[s]) ss.length=s:=by
  unfold qA;rw[Lg,List.getElem?_append_right Nl,Nat.sub_self];rfl
theorem qef {w w':World}{base:Nat}{v':Value}{ss:List Qh}{xs:List Value}{u u':Value}{s:Qh}(G: ∀j,j<ss.length→ ∃u u',xs[j*2]? =some u∧xs[j*2+1]? =some u'∧RowT w u (qA ss j).1∧RowT w u' (qA ss j).2)
    (r:xs.length=ss.length*2) (q:w'.ownsRow base 69 2 v' (ss.length+1) (xs++[u,u'])) (D:pKeeps [5,24] w w') (I:RowT w' u s.1) (J:RowT w' u' s.2):StepsT w' base v' (ss++[s]):=by
  have o:(ss++[s]).length=ss.length+1:=by simp
  refine⟨xs++[u,u'],by rw[o];exact q,fun j V=>?_⟩;rw[o]at V;by_cases e:j=ss.length
  · rw[e]
    refine⟨u,u',?_,?_,by rw[qbS];exact I,by rw[qbS];exact J⟩
    · rw[List.getElem?_append_right (by omega),r,Nat.sub_self];rfl
    · rw[List.getElem?_append_right (by omega),r,show ss.length*2+1 - ss.length*2=1 by omega];rfl
  · obtain⟨a,b,X,U,O,S⟩:=G j (by omega)
    refine⟨a,b,?_,?_,by rw[qcW (by omega)];exact O.keep D (by decide) (by decide),by rw[qcW (by omega)];exact S.keep D (by decide) (by decide)⟩
    · rw[List.getElem?_append_left (by omega)];exact X
    · rw[List.getElem?_append_left (by omega)];exact U
theorem StepsT.move {w w':World}{base:Nat}{v:Value}{ss:List Qh}(h:StepsT w base v ss)(q:pKeeps [5,24] w w')(G: ∀g,base≤g→g<w.heap.size→w'.heap[g]? =w.heap[g]?):StepsT w' base v ss:=by
  obtain⟨xs,o,r⟩:=h;refine⟨xs,Yd o G,fun j O=>?_⟩;obtain⟨a,b,S,J,D,I⟩:=r j O;exact⟨a,b,S,J,D.keep q (by decide) (by decide),I.keep q (by decide) (by decide)⟩
structure ButP (P Q:Nat)(w w':World):Prop where
  os:w'.os=w.os
  tape:w'.tape=w.tape
  output:w'.output=w.output
  size:w.heap.size≤w'.heap.size
  block: ∀b,b<Q→b≠P→w'.heap[b]? =w.heap[b]?
theorem ButP.refl (P Q:Nat)(w:World):ButP P Q w w:=⟨rfl,rfl,rfl,Nat.le_refl _,fun _ _ _=>rfl⟩
theorem ButP.trans {P Q:Nat}{w w1 D:World}(h:ButP P Q w w1)(o:ButP P Q w1 D):ButP P Q w D:=
  ⟨o.os.trans h.os,o.tape.trans h.tape,o.output.trans h.output,Nat.le_trans h.size o.size,fun b q r=>(o.block b q r).trans (h.block b q r)⟩
theorem JD {P Q B:Nat}{w w':World}(h:Below B w w')(q:Q≤B):ButP P Q w w':=
  ⟨h.os,h.tape,h.output,h.size,fun b o _=>h.block b (by omega)⟩
theorem qcc {P Q:Nat}(w:World){b i:Nat}(v:Value)(h:b=P∨Q≤b):ButP P Q w (w.setCell ⟨b,i,none⟩ v):=
  ⟨rfl,rfl,rfl,by simp,fun c q o=>Below.heap_setCell _ _ _ _ (by rcases h with rfl|h;exact o;(show c≠b;omega))⟩
theorem qgy {P Q:Nat}{w w':World}{row:Option Nat}(h:w.grownBy w' row)(q:Q≤w.heap.size)(o: ∀g,row=some g→Q≤g):ButP P Q w w':=
  ⟨h.os,h.tape,h.output,h.size,fun b r _=>h.block b (by omega) (fun e=>by have:=o b e.symm;omega)⟩
theorem ButP.below {P Q:Nat}{w w':World}(h:ButP P Q w w')(o:P≤Q):Below P w w':=
  ⟨h.os,h.tape,h.output,h.size,fun b q=>h.block b (by omega) (by omega)⟩
theorem StageAt.same {w w':World}{g:Nat}{R A F T r:Nat→Int}{la q:Nat→Bool}{j:Nat}(h:StageAt w g R A F T r la q j)(e:w'.heap[g]? =w.heap[g]?):StageAt w' g R A F T r la q j:=by
  obtain⟨O,D,G,S,U,I,J⟩:=h;have k: ∀o,w'.cell? ⟨g,o,none⟩=w.cell? ⟨g,o,none⟩:=fun o=>World.cell?_of_block e
  exact⟨(k _).trans O,(k _).trans D,(k _).trans G,(k _).trans S,(k _).trans U,(k _).trans I,(k _).trans J⟩
theorem qgs (W:World)(a0 a1:Value)(T:TypeId)(n:Nat)(q:n=W.heap.size): ∀j u,[a0,a1][j]? =some u→(W.alloc (.cells #[a0,a1] T)).cell? (Addr.add ⟨n,0,none⟩ j)=some u:=by
  subst q;intro j u o;have h:=qd (Wn W (.cells #[a0,a1] T)) j;rw[show Addr.add ⟨W.heap.size,0,none⟩ j=⟨W.heap.size,j,none⟩ by first|(simp[Addr.add];done)|(simp[Addr.add];omega),h];rw[←Array.getElem?_toList];exact o
theorem qc7:(Tryz.prog.info? 69).map (fun i=>(i.zero,i.size,i.bytes))=some (some (.agg #[.slice none 0 0,.slice none 0 0]),2,48):=by kernel_rfl
def unL (t:TreeV)(total leaf i:Nat)(zs:List Int):Nat→List Qh
  | 0=>[]
  | k+1=>unL t total leaf i zs k++[(Ja zs (16+QI t total leaf k*i) i (chN t total leaf k),Ja zs (16+QI t total leaf k*i+chN t total leaf k*i) i (afN t total leaf k))]
def nN (t:TreeV)(total leaf k:Nat):Nat:=chN t total leaf k+afN t total leaf k
def Yf (t:TreeV)(total leaf i k:Nat):Nat:=QI t total leaf k*i
theorem yc (t:TreeV)(total leaf i:Nat)(zs:List Int): ∀k,(unL t total leaf i zs k).length=k
  | 0=>rfl
  | k+1=>by simp[unL,yc t total leaf i zs k]
theorem qbT (t:TreeV)(total leaf:Nat){j k:Nat}(h:j≤k):QI t total leaf j≤QI t total leaf k:=by
  induction k with
  | zero=>
    obtain rfl:j=0:=by omega
    exact Nat.le_refl _
  | succ k ih=>
    by_cases e:j=k+1
    · rw[e];exact Nat.le_refl _
    · have:=ih (by omega)
      simp only[QI];omega
theorem qbU (t:TreeV)(total leaf i k:Nat):Yf t total leaf i (k+1)=Yf t total leaf i k+nN t total leaf k*i:=by
  unfold Yf nN;simp only[QI];rw[Nat.add_mul]
theorem qbV (t:TreeV)(total leaf i:Nat){j k:Nat}(h:j≤k):Yf t total leaf i j≤Yf t total leaf i k:=Nat.mul_le_mul_right i (qbT t total leaf h)
theorem qg4 (t:TreeV)(aK:0≤t.l∧t.l≤4294967295)(v:Value)(zs:List Int)(total leaf i L:Nat)(cf:t.validE=0)(a5:t.i=(i:Int))(bI:1≤i)(bR:i≤64)(ak:(total:Int)≤18446744073709551615)(bL:qO zs 0 8=(total:Int))(bZ:qO zs 8 8=(leaf:Int))(hz: ∀z∈zs,0≤z∧z≤255)(hL:zs.length=L+16)(hm:L≤134217728)(m:Nat)(aq:(t.rowsOf total).length - 1=m)(O:World→Value→Int→Prop)
    (P1:Hid (t.spotE total 0 leaf≠0→ ∀w',O w' (QZ 0 0 (.slice none 0 0)) (t.spotE total 0 leaf)))
    (P3:Hid (t.spotE total 0 leaf=0→L<QI t total leaf m*i→ ∀w',O w' (QZ 0 0 (.slice none 0 0)) 3))
    (P9:Hid (t.spotE total 0 leaf=0→QI t total leaf m*i<L→ ∀w',O w' (QZ 0 0 (.slice none 0 0)) 9))
    (P0:Hid (t.spotE total 0 leaf=0→QI t total leaf m*i=L→ ∀w' u,StepsAt w' u (unL t total leaf i zs m)→O w' (QZ total leaf u) 0))
    (w:World) (hv:Holds8 w v zs) (a6: ∀a n c,v= .slice a n c→n≤c):
    Calls Tryz.prog 54 #[t.val,v] w fun r w'=> ∃p e,r= .returned (.tuple #[p,.int .i64 e])∧O w' p e∧Below w.heap.size w w':=by
  have bf: ∀(B L p:Nat) (v:Value) (n:Nat) (w:World),jE B L p v→p+n*i≤L→L≤134217728→Calls Tryz.prog 91 #[v,.int .u64 n,.int .i64 t.i] w fun e w'=> ∃l r,e= .returned (.tuple #[l,r])∧w'.ownsRow w.heap.size 24 1 l n (qd0 B p i n)∧jE B L (p+n*i) r∧Below w.heap.size w w':=by
    intro B L p v n w h1 h2 h3;rw[a5];exact qjt B L p v n i w h1 bI bR h2 h3
  have aS:=hid bf;clear bf;have cK:=hid a5;have bt:1≤t.i:=by omega
  have dy:t.i≤64:=by omega
  clear a5;have cy:=hid bL;have ct:=hid bZ;clear bL bZ;have HV:=hid (YG t);rw[cf]at HV;have HH:=hid hv;have br:=hid (qbs t aK total ak leaf);have aP:=zQ t aK total ak leaf;rw[aq]at aP;have b6:=hid aP;clear aP;have bN:=hid (zi aK ak (leaf:=leaf));have bC:=hid (Y4 aK ak (leaf:=leaf));obtain⟨a,dC,rfl,aL⟩:=hv;have dm:=a6 _ _ _ rfl;clear a6;have HL:=hid hL;have dg:(zs.length:Int) - 16=(L:Int):=by omega
  have bK:16≤zs.length:=by omega
  have dr:zs.length≤134217744:=by omega
  have bg:=hid aq;clear hL aq;unfold TreeV.val QZ at*;go_enter Tryz.func54,Tryz.ntmps54
  go_wp2_with fail
  refine(HV.out _).mono ?_;rintro r w1 ⟨rfl,bv⟩;obtain⟨hT,hR,aE,du⟩:=qbu bv;have HT:=hid hT;have HR:=hid hR;obtain⟨cR,fR⟩:=yB hR;obtain⟨cT,fT⟩:=yB hT;clear bv hT hR;have k1:w.heap.size<w1.heap.size:=by omega
  have bx:w.heap.size+1<w1.heap.size:=by omega
  go_wp2_with fail
  refine(qaY zs _ 0 total cy.out _ (qN HH.out (aE.alloc (by omega) _)) hz (by have:=HL.out;omega) (by have:=HL.out;omega)).mono ?_;rintro r w2 ⟨rfl,rfl⟩;go_wp2_with fail
  refine(qaY zs _ 8 leaf ct.out _ (qN HH.out (aE.alloc (by omega) _)) hz (by have:=HL.out;omega) (by have:=HL.out;omega)).mono ?_;rintro r w2 ⟨rfl,rfl⟩;go_wp2_with fail
  by_cases he:t.spotE total 0 leaf=0
  · refine(b6.out he _).mono ?_;rintro r w2 ⟨g,gc,rfl,bc,ag⟩
    have ac:Below w1.heap.size w1 w2:=qt _ ag;have dk:=ac.size;have aO:w2.heap[w1.heap.size]? =some (Obj.cells #[.int .u64 total,.int .u64 leaf,.slice none 0 0] 55 (0,0)):=(ag.block _ (by simp)).trans (Wn _ _);have bP:=(ac.block _ k1).trans HT.out;have ae:=(ac.block _ bx).trans HR.out;have db:=(Ai aO).1;have cV:Below w.heap.size w w2:=aE.trans (ac.mono (by omega));have cW:=hid aO;have bu:=hid bP;have ba:=hid ae;have aR:=hid bc;obtain⟨hk,h0, -⟩:=bN.out he;have F:=bC.out he;have m1:=F.two;have m2:=F.most;have HK:=hid hk;have HE:=hid he;clear ag bc aO bP ae he hk F cR fR cT fT HV br b6 bN bC;have da:=bg.out;have dn:1≤m:=by omega
    have dh:m≤255:=by omega
    clear da m1 m2;have b8:=aR.out.1;generalize w1.heap.size=P at*;have bM:w.heap.size<w2.heap.size:=by omega
    have ch:w.heap.size+1<w2.heap.size:=by omega
    go_wp2_with fail
    go_loopw [61,11] (fun j o wr=> ∃(k:Nat),j= .int .i64 k∧o= .int .u64 ((Yf t total leaf i k:Nat):Int)∧k≤m∧Yf t total leaf i k≤L∧Below w2.heap.size w2 wr) (fun j _ _=>m - (intOf j).toNat)
    case atStart=>exact⟨0,rfl,by simp[QI,Yf],by omega,by simp[QI,Yf],Below.refl _ _⟩
    case round=>
      obtain⟨k,rfl,rfl,hk,bn,hb⟩:=hrel;have cI:=hb.size;have cO:w.heap.size<wr.heap.size:=by omega
      have au:w.heap.size+1<wr.heap.size:=by omega
      have aT:=(hb.block _ ch).trans ba.out;have aI:=hid aT;obtain⟨cT,fT⟩:=yB ((hb.block _ bM).trans bu.out);obtain⟨cR,fR⟩:=yB aT;have ad:Below w.heap.size w wr:=cV.trans (hb.mono (by omega));clear aT;by_cases cL:k<m
      · obtain⟨c0,c1,c2,c3,c4,c5,c6⟩:=(aR.out.2 k cL).below b8 hb
        dsimp only at c0 c1 c2 c3 c4 c5;obtain⟨h1,h2,h3,h4⟩:=HK.out k (by have:=bg.out;omega);have hn:((qx t total leaf (k+1)).to_:Int) - ((qx t total leaf (k+1)).frm:Int) - 1=((nN t total leaf k:Nat):Int):=by
          unfold nN chN afN;omega
        have D:=qbU t total leaf i k;have G:=qbV t total leaf i (show k+1≤m by omega);have ap:L<Yf t total leaf i m→ ∀w',O w' (.agg #[.int .u64 0,.int .u64 0,.slice none 0 0]) 3:=fun h=>P3.out HE.out h
        have bh:=hid ap;clear ap h1 h2;have h5:0≤((qx t total leaf (k+1)).frm:Int):=Int.natCast_nonneg _;generalize ((qx t total leaf (k+1)).row:Int)=z0 at*;generalize ((qx t total leaf (k+1)).at_:Int)=z1 at*;generalize ((qx t total leaf (k+1)).frm:Int)=z2 at*;generalize ((qx t total leaf (k+1)).to_:Int)=z3 at*;generalize (qx t total leaf (k+1)).last=z4 at*;generalize (qx t total leaf (k+1)).root=z5 at*;generalize chI t total leaf k=z6 at*;obtain⟨nn,aA⟩:=Ex (nN t total leaf k);obtain⟨nb,b9⟩:=Ex (Yf t total leaf i k);obtain⟨b4,ar⟩:=Ex (Yf t total leaf i (k+1));obtain⟨bO,bk⟩:=Ex (Yf t total leaf i m);rw[aA]at hn D;rw[b9]at bn D⊢;rw[ar]at D G;rw[bk]at G bh;have bs:=hid ar;clear aA b9 ar bk h4;by_cases hA:L<nn
        · have e3:nn≤nn*i:=Nat.le_mul_of_pos_right _ bI
          have aw:=hid (show L<bO by omega);clear e3 D G;go_wp2
          exact Bp (yL rfl rfl rfl (b:=w.heap.size+1) ((Bh _ _ _ (by simpa using au)).trans (Yi aI.out _ _ _)) rfl) rfl ⟨_,_,rfl,bh.out aw.out _,(Yj ad (by omega) _ _ _).alloc (by simp;omega) _⟩
        · have cS:nn*i≤134217728*64:=Nat.mul_le_mul (by omega) bR
          have aF:(nn:Int)*t.i=((nn*i:Nat):Int):=by rw[cK.out,Int.natCast_mul]
          have az:0≤(nn:Int)*t.i:=by rw[aF];omega
          have am:(nn:Int)*t.i≤8589934592:=by rw[aF];omega
          have J:(nb:Int)+(nn:Int)*t.i=(b4:Int):=by rw[aF,D];omega
          clear aF cS D;by_cases hB:(L:Int)<(b4:Int)
          · have aw:=hid (show L<bO by omega)
            have df:(L:Int)<(nb:Int)+(nn:Int)*t.i:=by rw[J];exact hB
            clear G hB J;go_wp2
            exact Bp (yL rfl rfl rfl (b:=w.heap.size+1) ((Bh _ _ _ (by simpa using au)).trans (Yi aI.out _ _ _)) rfl) rfl ⟨_,_,rfl,bh.out aw.out _,(Yj ad (by omega) _ _ _).alloc (by simp;omega) _⟩
          · have df: ¬(L:Int)<(nb:Int)+(nn:Int)*t.i:=by rw[J];exact hB
            have cU:=hid J;clear J G;go_wp2
            exact⟨⟨k+1,rfl,by rw[bs.out,cU.out],by omega,by rw[bs.out];omega,hb.alloc cI _⟩,by simp[intOf];omega⟩
      · obtain rfl:k=m:=by omega
        by_cases hC:Yf t total leaf i k<L
        · have HC:=hid hC
          go_wp2
          exact Bp (yL rfl rfl rfl (b:=w.heap.size+1) (Yi aI.out _ _ _) rfl) rfl ⟨_,_,rfl,P9.out HE.out HC.out _,Yj ad (by omega) _ _ _⟩
        · have bW:Yf t total leaf i k=L:=by omega
          obtain⟨i0,bU,cu,aH,cx⟩:=info_parts Ql;have cZ:(Instr.makeSlice 24 (.int .u64 L) (.int .u64 L)).run Tryz.prog wr= .ok (.slice (some ⟨wr.heap.size,0,none⟩) L L) (wr.alloc (.cells (List.replicate L (.int .u8 0)).toArray 5)):=by
            have h:=run_make (P:=Tryz.prog) wr 24 5 i0 (.int .u8 0) Tryz.underlying24 bU cu .u64 .u64 L L (by omega) (Int.le_refl _) (by rw[cx];omega) (by omega);rw[aH,Int.toNat_natCast,Nat.mul_one]at h;have e:madeCells (Value.int .u8 0).cells L=(List.replicate L (.int .u8 0)).toArray:=by
              have:=toList_madeCells_one (.int .u8 0) L
              rw[←this];rfl
            rw[e]at h;exact h
          obtain⟨ab,ao,rfl,cA,bT⟩:=aL.resolve_left (fun e=>by rw[e]at bK;simp at bK);have cv:=hid bT;clear aL bT;have aa:(zs.drop 16).length=L:=by rw[List.length_drop];have:=HL.out;omega
          have bE: ∀j u,((zs.drop 16).map qo)[j]? =some u→(wr.alloc (.cells (List.replicate L (.int .u8 0)).toArray 5)).cell? (Addr.add ⟨ab,ao+16,none⟩ j)=some u:=by
            intro j u hj;obtain⟨bt,rfl⟩:=List.getElem?_eq_some_iff.1 hj;rw[List.length_map,aa]at bt;have aH:=cv.out (16+j) (by have:=HL.out;omega);rw[Go.WideShapes.add_plain,((ad.alloc (by omega) _).cell (p:=⟨ab,_,none⟩) cA),Nat.add_assoc,aH];simp[qo,qp,Lg]
            have:16+j<zs.length:=by have:=HL.out;omega
            simp[this]
          have c9:=hid bE;have a8:splice (List.replicate L (Value.int .u8 0)) 0 ((zs.drop 16).map qo)=(zs.drop 16).map qo:=by
            have bz:((zs.drop 16).map qo).length=L:=by rw[List.length_map,aa]
            generalize (zs.drop 16).map qo=cs at bz⊢;unfold splice;rw[bz];simp
          have cc:=hid a8;clear bE a8;go_wp2_with ((with_reducible show wpList _ _ _ (Oper.mk (some 105) _ _ _ _ _::_) _ _);refine wpList_copy_splice rfl _ _ _ _ rfl 5 Tryz.underlying24 (by rw[bU];simp[aH]) _ _ _ _ _ _ rfl rfl wr.heap.size 0 (List.replicate L (.int .u8 0)) 5 (Wn _ _) ((zs.drop 16).map qo) (by rw[List.length_map,aa];have:=HL.out;show _=min _ _;omega) (by intro h;rw[List.length_map,aa]at h;refine⟨rfl,⟨ab,ao+16,none⟩,?_,c9.out⟩;first|rfl|(rw[if_neg (by have:=HL.out;omega)])|(exfalso;have:=HL.out;omega)) (by rw[List.length_map,aa];simp) (by intro u hu;obtain⟨z, -,rfl⟩:=List.mem_map.1 hu;rfl) wr.heap.size wr (Br.alloc Nl _) Nl ?_;intro w3 bd af)
          all_goals
            rw[cc.out]at bd;have bD:=bd.out;have dq:=(Ai bD).1;have dF:=af.size;have aX:=(af.block _ (by omega)).trans ((hb.block P db).trans cW.out);have bS:=(af.block _ cO).trans ((hb.block _ bM).trans bu.out);have a9:=(af.block _ au).trans aI.out;have cg:Below w.heap.size w w3:=ad.trans (af.mono (by omega));have ax: ∀j,j<k→StageAt w3 g _ _ _ _ _ _ _ j:=fun j hj=>((aR.out.2 j hj).below b8 hb).below (by omega) af
            have cX:g≠P:=by
              intro e;have h1:=(ax 0 (by omega)).1;rw[e,qd aX]at h1;simp at h1
            have dp:P<wr.heap.size:=by omega
            have cd:=hid ax;have ck:=hid bS;have ca:=hid a9;have cH:=hid aX;have bF:=hid bW;clear bD aX bS a9 ax cT fT cR fR cZ bW;have dz:g<w3.heap.size:=by omega
            generalize wr.heap.size=N at*;go_loopw [108,15] (fun jj o wr=> ∃(j:Nat) (v:Value),jj= .int .i64 j∧j≤k∧jE N L (Yf t total leaf i j) o∧ButP P w3.heap.size w3 wr∧wr.heap[P]? =some (Obj.cells #[.int .u64 total,.int .u64 leaf,v] 55 (0,0))∧Hid (StepsT wr w3.heap.size v (unL t total leaf i zs j))) (fun jj _ _=>k - (intOf jj).toNat)
            case atStart=>exact⟨0,_,rfl,by omega,⟨0,by simp[Yf,QI],fun _=>by simp[Yf,QI]⟩,ButP.refl _ _ _,cH.out,hid ⟨[],Wo _ _ _ _,fun j h=>absurd h (Nat.not_lt_zero _)⟩⟩
            case round=>
              obtain⟨j,v,rfl,hj,⟨q,rfl,hq⟩,Z,aW,bb⟩:=hrel;have cN:=Z.size;have aM:=(Z.block _ (by omega) (by omega)).trans ck.out;have aN:=(Z.block _ (by omega) (by omega)).trans ca.out;have bp:=(Z.block N (by omega) (by omega)).trans bd.out;have de:=Z.block g (by omega) cX;have b5:=hid aN;have c7:=hid bp;obtain⟨cT,fT⟩:=yB aM;obtain⟨cR,fR⟩:=yB aN;obtain⟨cP,fP⟩:=yB aW;have cG:=hid aW;have cF:=hid aM;have q1:w.heap.size<wr.heap.size:=by omega
              have q2:P<wr.heap.size:=by omega
              have q3:w.heap.size+1<wr.heap.size:=by omega
              clear aM aN bp aW;by_cases cJ:j<k
              · obtain⟨c0,c1,c2,c3,c4,c5,c6⟩:=(cd.out j cJ).same de
                dsimp only at c0 c1 c2 c3 c4 c5;obtain⟨h1,h2,h3,h4⟩:=HK.out j (by have:=bg.out;omega);have bQ:=qd2 (t:=t) (total:=total) (leaf:=leaf) (k:=j) ⟨h1,h2,h3,h4⟩;rw[bQ]at c6;have dl:((qx t total leaf (j+1)).to_:Int) - ((qx t total leaf (j+1)).frm:Int) - ((chN t total leaf j:Nat):Int) - 1=((afN t total leaf j:Nat):Int):=by
                  unfold chN afN;omega
                have di:0≤((qx t total leaf (j+1)).frm:Int):=Int.natCast_nonneg _;have D:=qbU t total leaf i j;have G:=qbV t total leaf i (show j+1≤k by omega);have aA:nN t total leaf j*i=chN t total leaf j*i+afN t total leaf j*i:=by unfold nN;rw[Nat.add_mul]
                have aU:unL t total leaf i zs (j+1)=unL t total leaf i zs j++[(Ja (zs.drop 16) (Yf t total leaf i j) i (chN t total leaf j),Ja (zs.drop 16) (Yf t total leaf i j+chN t total leaf j*i) i (afN t total leaf j))]:=by
                  rw[qdd,qdd,←Nat.add_assoc];rfl
                have a7:=hid aU;have hE:=bF.out;clear h1 h2 h4 bQ aU;generalize ((qx t total leaf (j+1)).row:Int)=z0 at*;generalize ((qx t total leaf (j+1)).at_:Int)=z1 at*;generalize ((qx t total leaf (j+1)).frm:Int)=z2 at*;generalize ((qx t total leaf (j+1)).to_:Int)=z3 at*;generalize (qx t total leaf (j+1)).last=z4 at*;generalize (qx t total leaf (j+1)).root=z5 at*;generalize Yf t total leaf i k=nk at*;obtain⟨p0,az⟩:=Ex (Yf t total leaf i j);obtain⟨p1,am⟩:=Ex (Yf t total leaf i (j+1));rw[az,am]at D;rw[am]at G;rw[az]at hq a7⊢;have c8:=hid am;clear az am;generalize chN t total leaf j=c at*;generalize afN t total leaf j=d at*;have bo:jE N L p0 (.slice (some ⟨N,q,none⟩) (L - p0) (L - p0)):=⟨q,rfl,hq⟩;have bw:=hid (show p0+c*i≤L by omega);have bq:=hid (show p0+c*i+d*i≤L by omega);have ce:=hid (show p0+c*i+d*i=p1 by omega);clear D G aA hE;obtain⟨xs,I,bX⟩:=bb.out;have cM:=hid bX;have ay:=yc t total leaf i zs j;have bA:=hid ay;have co:xs.length=j*2:=by rw[I.1,ay]
                rw[ay]at I;clear bX ay;go_wp2_with fail
                refine(aS.out N L p0 _ c _ bo bw.out hm).mono ?_;rintro r w4 ⟨l1,r1,rfl,ah,⟨qa,rfl,cE⟩,al⟩;have cB:=al.size;simp at cB
                have S:Below wr.heap.size wr w4:=qt _ (Below.trans (Br.alloc Nl _) (al.mono (by simp)));have be:w4.heap[wr.heap.size+1]? =some (Obj.cells #[.slice none 0 0,.slice none 0 0] 69 (0,0)):=(al.block _ (by simp)).trans (qz _ _ (by simp));have bY:w4.heap[wr.heap.size]? =some (Obj.cells #[.int .i64 z0,.int .u64 z1,.int .u64 z2,.int .u64 z3,.bool z4,.bool z5,.int .u64 c] 127 (0,0)):=(al.block _ (by simp;omega)).trans ((Bh _ _ _ (by simp)).trans (Wn _ _));have bi:=(S.block _ q1).trans cF.out;have b7:=(S.block _ q2).trans cG.out;have aZ:=(S.block N (by omega)).trans c7.out;have aC:=qaP ah aZ (by rw[aa];exact bw.out);obtain⟨a1,an,rfl⟩:=Ye ah;obtain⟨dd,cn⟩:=yB bi;obtain⟨cl,cr⟩:=yB bY;obtain⟨cz,cQ⟩:=yB be;have q4:w.heap.size<w4.heap.size:=by omega
                have q5:wr.heap.size<w4.heap.size:=by omega
                have q6:wr.heap.size+1<w4.heap.size:=by omega
                have bV:=hid be;have cC:=hid aZ;have cp:=hid b7;have dA:=hid bi;have bm:=hid aC;have aQ:jE N L (p0+c*i) (.slice (some ⟨N,qa,none⟩) (L - (p0+c*i)) (L - (p0+c*i))):=⟨qa,rfl,cE⟩;clear be bY bi b7 aZ aC al ah cT fT cP fP cR fR c0 c1 c2 c3 c4 c5 c6;go_wp2_with fail
                refine(aS.out N L (p0+c*i) _ d _ aQ bq.out hm).mono ?_;rintro r X ⟨l2,r2,rfl,aj,⟨qb,rfl,cw⟩,U⟩;have cD:=U.size;simp at cD
                have aJ:X.heap[wr.heap.size+1]? =some (Obj.cells #[.slice a1 c an,.slice none 0 0] 69 (0,0)):=(U.block _ (by simp;omega)).trans (block_setCell bV.out _);have aV:=(U.block P (by simp;omega)).trans ((Below.heap_setCell w4 ⟨wr.heap.size+1,0,none⟩ (.slice a1 c an) P (by show P≠wr.heap.size+1;omega)).trans cp.out);have b0:=(U.block N (by simp;omega)).trans ((Below.heap_setCell w4 ⟨wr.heap.size+1,0,none⟩ (.slice a1 c an) N (by show N≠wr.heap.size+1;omega)).trans cC.out);have aD:=qaP aj b0 (by rw[aa];exact bq.out);obtain⟨a2,V,rfl⟩:=Ye aj;have aG:(X.setCell ⟨wr.heap.size+1,1,none⟩ (.slice a2 d V)).ownsRow w3.heap.size 69 2 v j xs:=Yd I (fun g _ g2=>(Below.heap_setCell _ _ _ _ (by show g≠wr.heap.size+1;omega)).trans ((U.block g (by simp;omega)).trans ((Below.heap_setCell _ _ _ _ (by show g≠wr.heap.size+1;omega)).trans (S.block g g2))));have b3:pKeeps [5,24] w4 (X.setCell ⟨wr.heap.size+1,1,none⟩ (.slice a2 d V)):=(Y7 bV.out (by decide) _).trans ((jt U).trans (Y7 aJ (by decide) _));have a4:pKeeps [5,24] X (X.setCell ⟨wr.heap.size+1,1,none⟩ (.slice a2 d V)):=Y7 aJ (by decide) _;have aY:ButP P w3.heap.size w3 (X.setCell ⟨wr.heap.size+1,1,none⟩ (.slice a2 d V)):=Z.trans ((JD S cN).trans ((qcc w4 _ (.inr (by omega))).trans ((JD U (by simp;omega)).trans (qcc X _ (.inr (by omega))))));obtain⟨dD,dw⟩:=yB aJ;obtain⟨dE,dG⟩:=yB aV;have q7:P<X.heap.size:=by omega
                have q8:wr.heap.size+1<X.heap.size:=by omega
                have cq:=hid aV;have bG:=hid b3;have cb:=hid a4;have ci:=hid aY;have bl:=hid aD;have Y:=hid aG;obtain⟨i1,cj,dc,cm,cY⟩:=info_parts qc7;clear aJ aV b0 aD b3 a4 aY U aj dd cn cl cr cz cQ aG I;go_wp2_with (at_builtin;refine wpList_append_own _ rfl _ _ 53 rfl w3.heap.size 69 i1 _ 2 48 Tryz.underlying53 cj dc cm cY rfl (by decide) _ j xs rfl (Y.out.alloc _) ⟨X.heap.size,0,none⟩ 1 1 [.slice a1 c an,.slice a2 d V] rfl rfl (qgs _ _ _ _ _ (by simp)) (by simp[Value.oneCell']) (by unfold maxLen;omega) (by omega) (by simp;omega) ?_;intro v' w6 aB ai _;obtain⟨g6,bH,rfl⟩:=ownsRow_form aB (by omega);have bj:=(ai.block P (by simp;omega) (fun e=>by have:=(Y.out.lt P e.symm).1;omega)).trans ((Bh _ _ P (by simpa using q7)).trans ((Below.heap_setCell X ⟨wr.heap.size+1,1,none⟩ (.slice a2 d V) P (by show P≠wr.heap.size+1;omega)).trans cq.out));obtain⟨dx,dB⟩:=yB bj;have bJ:=hid bj;clear bj)
                have a3:pKeeps [5,24] (X.setCell ⟨wr.heap.size+1,1,none⟩ (.slice a2 d V)) (w6.setCell ⟨P,2,none⟩ (.slice (some ⟨g6,0,none⟩) (j+1) bH)):=(qeW _ _).trans ((qeV (Y.out.alloc _) ai (by decide)).trans (Y7 bJ.out (by decide) _));refine⟨⟨j+1,.slice (some ⟨g6,0,none⟩) (j+1) bH,rfl,by omega,?_,?_,block_setCell bJ.out _,hid ?_⟩,by simp[intOf];omega⟩
                · rw[c8.out,←ce.out];exact⟨qb,rfl,cw⟩
                · exact ci.out.trans ((JD (Br.alloc Nl _) (by simp;omega)).trans ((qgy ai (by simp;omega) (fun g e=>(Y.out.lt g e).1)).trans (qcc w6 _ (.inl rfl))))
                · rw[a7.out]
                  refine qef (w:=wr) (xs:=xs) (u:= .slice a1 c an) (u':= .slice a2 d V) cM.out (by rw[bA.out];exact co) ?_ ((jt S).trans (bG.out.trans a3)) (bm.out.keep (bG.out.trans a3) (by decide) (by decide)) (bl.out.keep (cb.out.trans a3) (by decide) (by decide));rw[bA.out];exact ownsRow_setCell_below aB (a:=⟨P,2,none⟩) (by show P<w3.heap.size;omega) _
              · obtain rfl:j=k:=by omega
                obtain⟨xs,I, -⟩:=id bb.out;obtain⟨av,dv,rfl⟩:=Ye I;clear I;go_wp2
                exact Bp (yL rfl rfl rfl (b:=w.heap.size+1) (Yi b5.out _ _ _) rfl) rfl ⟨_,_,rfl,P0.out HE.out bF.out _ _ (bb.out.move (qga b5.out (by decide) _ _ _) (fun g g1 _=>qf2 (by omega) _ _ _)).at,Yj (cg.trans ((Z.below (by omega)).mono (by omega))) (by omega) _ _ _⟩
  · have HE:=hid he
    have q:(t.spotE total 0 leaf != 0)=true:=by rw[bne_iff_ne];exact he
    refine(br.out he _).mono ?_;rintro r w2 ⟨rfl,ag⟩;have ac:Below w1.heap.size w1 w2:=qt _ ag;have ae:=(ac.block _ bx).trans HR.out;have ba:=hid ae;obtain⟨dt,dj⟩:=yB ae;clear ag ae cR fR he;go_wp2
    exact Bp (yL rfl rfl rfl (b:=w.heap.size+1) (Yi ba.out _ _ _) rfl) rfl ⟨_,_,rfl,P1.out HE.out _,Yj (aE.trans (ac.mono (by omega))) (by omega) _ _ _⟩
theorem qh4 (zs:List Int)(u v:Value)(w:World)(O:Holds8 w u zs)(X:Holds8 w v zs)(hl:zs.length≤1099511627776):
    Calls Tryz.prog 73 #[u,v] w fun e w'=>e= .returned (.bool true)∧ ∃m,w'=w.drewN m:=by
  obtain⟨a,Z,rfl,h⟩:=O;obtain⟨a',V,rfl,G⟩:=X;by_cases D:zs=[]
  · subst D
    clear h G;go_enter Tryz.func73,Tryz.ntmps73
    go_wp2_with fail
    go_loopw [5] (fun i wr=>i= .int .i64 0∧w=wr) (fun _ _=>0)
    case atStart=>exact⟨rfl,rfl⟩
    case round=>
      obtain⟨rfl,rfl⟩:=hrel;go_wp2
      go_ret
      exact⟨rfl,0,rfl⟩
  · obtain⟨b,off,rfl,Y,q⟩:=h.resolve_left D
    obtain⟨b',I,rfl,S,o⟩:=G.resolve_left D;have U:=hid q;have J:=hid o;clear h G q o;go_enter Tryz.func73,Tryz.ntmps73
    go_wp2_with fail
    go_loopw [5] (fun i wr=> ∃(k n:Nat),i= .int .i64 k∧k≤zs.length∧wr=w.drewN n) (fun i _=>zs.length - (intOf i).toNat)
    case atStart=>exact⟨0,0,rfl,Nat.zero_le _,rfl⟩
    case round=>
      obtain⟨k,n,rfl,hk,rfl⟩:=hrel;by_cases r:k<zs.length
      · have e1:w.cell? ⟨b,off+k,none⟩=some (.int .u8 (qp zs k)):=U.out k r
        have e2:w.cell? ⟨b',I+k,none⟩=some (.int .u8 (qp zs k)):=J.out k r;go_wp2
        go_quiet (fail)
        go_wp2
        exact⟨⟨k+1,n+nq,by go_num,by omega,rfl⟩,by simp[intOf];omega⟩
      · obtain rfl:k=zs.length:=by omega
        go_wp2
        go_ret
        exact⟨rfl,n,rfl⟩
theorem qeT (zs:List Int)(u v:Value)(w:World)(q:Holds8 w u zs)(o:Holds8 w v zs)(r:zs.length≤1099511627776):
    Calls Tryz.prog 35 #[u,v] w fun e w'=>e= .returned (.bool true)∧ ∃m,w'=w.drewN m:=by
  have H:=hid (qh4 zs u v w q o r);clear q o;go_enter Tryz.func35,Tryz.ntmps35
  go_wp2_with fail
  refine H.out.mono ?_;rintro e w1 ⟨rfl,m,rfl⟩;go_wp2
  go_ret
  exact⟨rfl,m,rfl⟩
def qi8 (ds:List (List Int)):Prop:=ds.length≤1048576∧ ∀d∈ds,d.length≤1048576
theorem Jl {w:World}{a:Option Addr}{n o:Nat}{ds:List (List Int)}(h:pRowsAt w (.slice a n o) ds){k:Nat}(I:k<n):
    n=ds.length∧ ∃b off x c,a=some ⟨b,off,none⟩∧w.cell? ⟨b,off+k,none⟩=some (.slice x (QH ds k).length c)∧Holds8 w (.slice x (QH ds k).length c) (QH ds k):=by
  obtain⟨q,b,off,x,c,G, -,r,D⟩:=h.elem I;exact⟨q,b,off,x,c,G,r,D⟩
theorem qc4 (ds:List (List Int))(u v:Value)(w:World)(S:pRowsAt w u ds)(U:pRowsAt w v ds)(D:qi8 ds):
    Calls Tryz.prog 71 #[u,v] w fun e w'=>e= .returned (.bool true)∧ ∃m,w'=w.drewN m:=by
  have HU:=hid S;have Z:=hid U;have Y:=hid D.2;have ab:=D.1;clear D;obtain⟨a,ac,V,rfl, -, -⟩:=S;obtain⟨a',aa,V',rfl, -, -⟩:=U;generalize hn:ds.length=n at*;go_enter Tryz.func71,Tryz.ntmps71
  go_wp2_with fail
  go_loopw [5] (fun i wr=> ∃(k m:Nat),i= .int .i64 k∧k≤n∧wr=w.drewN m) (fun i _=>n - (intOf i).toNat)
  case atStart=>exact⟨0,0,rfl,Nat.zero_le _,rfl⟩
  case round=>
    obtain⟨k,m,rfl,hk,rfl⟩:=hrel;by_cases r:k<n
    · obtain⟨-,b,off,x,c,rfl,X,I⟩:=Jl HU.out r
      obtain⟨-,b',G,x',c',rfl,J,o⟩:=Jl Z.out r;have ad:(QH ds k).length≤1048576:=Y.out _ (yQ (by omega));have H2:=hid I;have O:=hid o;generalize hx:QH ds k=zs at*;generalize hy:zs.length=q at*;clear I o;go_wp2_with fail
      go_region_held3 (fun w'=>w'.cell? ⟨b,off+k,none⟩=some (.slice x q c)∧w'.cell? ⟨b',G+k,none⟩=some (.slice x' q c'))
        (first|exact⟨X,J⟩|go_keep)
        (first
          | (refine(qeT zs _ _ _ (qN H2.out (by repeat(first|exact Below.refl _ _|exact below_draws _ _ _|refine Below.drew ?_))) (qN O.out (by repeat(first|exact Below.refl _ _|exact below_draws _ _ _|refine Below.drew ?_))) (by omega)).mono ?_;rintro e w2 ⟨rfl,m2,rfl⟩))
      go_wp2
      exact⟨⟨k+1,_,rfl,by omega,rfl⟩,by simp[intOf];omega⟩
    · obtain rfl:k=n:=by omega
      go_wp2
      go_ret
      exact⟨rfl,m,rfl⟩
def qfn (ss:List Qh):Prop:=ss.length≤1048576∧ ∀s∈ss,qi8 s.1∧qi8 s.2
theorem qhQ (total leaf:Int)(ss:List Qh)(u v:Value)(w:World)(hu:StepsAt w u ss)(hv:StepsAt w v ss)(hl:qfn ss):
    Calls Tryz.prog 32 #[.agg #[.int .u64 total,.int .u64 leaf,u],.agg #[.int .u64 total,.int .u64 leaf,v]] w fun e w'=>e= .returned (.bool true)∧Below w.heap.size w w':=by
  have HL:=hid hl.2;have ay:=hl.1;clear hl;obtain⟨a,ae,U,V,rfl, -,ac⟩:=hu;obtain⟨a',r,U',V',rfl, -,ak⟩:=hv;have ar:=hid ac;have aq:=hid ak;clear ac ak;generalize J:ss.length=n at*;go_enter Tryz.func32,Tryz.ntmps32
  go_wp2_with fail
  refine JU ?_;intro W I;have o:Below w.heap.size w W:=by rw[I];exact(Br.alloc Nl _).alloc (by simp) _
  have c1:W.cell? ⟨w.heap.size,2,none⟩=some (.slice a n ae):=by
    rw[I,qd ((Bh _ _ w.heap.size (by simp)).trans (Wn w _)) 2];rfl
  have c2:W.cell? ⟨w.heap.size+1,2,none⟩=some (.slice a' n r):=by
    rw[I,qd (qz _ _ (by simp)) 2];rfl
  clear I;go_loopw [5] (fun i wr=> ∃(j m:Nat),i= .int .i64 j∧j≤n∧wr=W.drewN m) (fun i _=>n - (intOf i).toNat)
  case atStart=>exact⟨0,0,rfl,Nat.zero_le _,rfl⟩
  case round=>
    obtain⟨j,m,rfl,hj,rfl⟩:=hrel;by_cases aa:j<n
    · obtain⟨b,off,rfl,ai,af⟩:=ar.out.resolve_left (fun e=>by rw[e]at J;simp at J;omega)
      obtain⟨b',q,rfl,G,D⟩:=aq.out.resolve_left (fun e=>by rw[e]at J;simp at J;omega);obtain⟨k1,k2,k3,k4⟩:=af j aa;obtain⟨aj,ag,O,X⟩:=D j aa;obtain⟨L1,L2⟩:=HL.out _ (Zx (ss:=ss) (k:=j) (by omega));have d1:W.cell? ⟨b,off+j*2,none⟩=some (U j):=(o.cell (p:=⟨b,_,none⟩) ai).trans k1;have d2:W.cell? ⟨b,off+j*2+1,none⟩=some (V j):=(o.cell (p:=⟨b,_,none⟩) ai).trans k2;have am:W.cell? ⟨b',q+j*2,none⟩=some (U' j):=(o.cell (p:=⟨b',_,none⟩) G).trans aj;have S:W.cell? ⟨b',q+j*2+1,none⟩=some (V' j):=(o.cell (p:=⟨b',_,none⟩) G).trans ag;have R1:=hid (k3.below o);have R2:=hid (k4.below o);have Y:=hid (O.below o);have ao:=hid (X.below o);have av:=hid L1;have au:=hid L2;obtain⟨x1,y1,V1,e1, -, -⟩:=k3;obtain⟨x2,y2,V2,e2, -, -⟩:=k4;obtain⟨ab,ad,az,al, -, -⟩:=O;obtain⟨an,Z,ax,ah, -, -⟩:=X;rw[e1]at d1 R1;rw[e2]at d2 R2;rw[al]at am Y;rw[ah]at S ao;clear k1 k2 aj ag e1 e2 al ah af D L1 L2;have ap:=hid (fun(w:World) (a1:pRowsAt w _ _) (a2:pRowsAt w _ _)=>qc4 (qA ss j).1 (.slice x1 (qA ss j).1.length y1) (.slice ab (qA ss j).1.length ad) w a1 a2 av.out);have aw:=hid (fun(w:World) (a1:pRowsAt w _ _) (a2:pRowsAt w _ _)=>qc4 (qA ss j).2 (.slice x2 (qA ss j).2.length y2) (.slice an (qA ss j).2.length Z) w a1 a2 au.out);go_wp2_with fail
      go_region_held3 (fun w'=>w'.cell? ⟨w.heap.size,2,none⟩=some (.slice (some ⟨b,off,none⟩) n ae)∧w'.cell? ⟨w.heap.size+1,2,none⟩=some (.slice (some ⟨b',q,none⟩) n r)∧w'.cell? ⟨b,off+j*2,none⟩=some (.slice x1 (qA ss j).1.length y1)∧w'.cell? ⟨b,off+j*2+1,none⟩=some (.slice x2 (qA ss j).2.length y2)∧w'.cell? ⟨b',q+j*2,none⟩=some (.slice ab (qA ss j).1.length ad)∧w'.cell? ⟨b',q+j*2+1,none⟩=some (.slice an (qA ss j).2.length Z))
        (first|exact⟨c1,c2,d1,d2,am,S⟩|go_keep)
        (first
          | (go_at_call_of 71 (Value.slice x1 (qA ss j).1.length y1);refine(ap.out _ (R1.out.below (by repeat(first|exact Below.refl _ _|exact below_draws _ _ _|refine Below.drew ?_))) (Y.out.below (by repeat(first|exact Below.refl _ _|exact below_draws _ _ _|refine Below.drew ?_)))).mono ?_;rintro e w2 ⟨rfl,m2,rfl⟩)
          | (go_at_call_of 71 (Value.slice x2 (qA ss j).2.length y2);refine(aw.out _ (R2.out.below (by repeat(first|exact Below.refl _ _|exact below_draws _ _ _|refine Below.drew ?_))) (ao.out.below (by repeat(first|exact Below.refl _ _|exact below_draws _ _ _|refine Below.drew ?_)))).mono ?_;rintro e w3 ⟨rfl,m3,rfl⟩))
      go_wp2
      exact⟨⟨j+1,_,rfl,by omega,rfl⟩,by simp[intOf];omega⟩
    · obtain rfl:j=n:=by omega
      go_wp2
      go_ret
      exact⟨rfl,o.trans (below_draws _ _ _)⟩
end Go.Proofs.YthjoojnlnlmljaaGreat
