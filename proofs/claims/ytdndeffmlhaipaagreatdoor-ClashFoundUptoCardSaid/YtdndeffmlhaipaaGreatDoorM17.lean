/- What is appended to a row that a function made. No condition. -/
import Derived.Test.YtdndeffmlhaipaaGreatDoorM15
import Derived.Test.YtdndeffmlhaipaaGreatDoorM16
import Derived.Deep.RegionHeld3
import Derived.Laws.AppendOwnNone
set_option linter.all false
set_option maxRecDepth 100000
set_option maxHeartbeats 8000000
namespace Go.Proofs.YtdndeffmlhaipaaGreatDoor
open Go.ChangeShapes Go.WideShapes Go.ChangeAt Go.RowKit Go.Joins Go.Shelf Go.Maps
attribute [local go_sem] Oper.semAt_some
def SrcIs (w:World)(x:Value)(m:Nat)(news:List Value):Prop:=
 news.length=m∧(∀u∈news,u.oneCell'=true)∧((x= .slice none 0 0∧m=0)∨ ∃ad c,x= .slice (some ad) m c∧ ∀j u,news[j]? =some u→w.cell? (ad.add j)=some u)
theorem SrcIs.below {w w':World}{x:Value}{m:Nat}{news:List Value}(h:SrcIs w x m news)(hb:Below w.heap.size w w'):SrcIs w' x m news:=by
 refine⟨h.1,h.2.1,?_⟩;rcases h.2.2 with h2|⟨ad,c,e,h2⟩
 ·exact .inl h2
 ·refine .inr ⟨ad,c,e,fun j u hj=>?_⟩;have:=h2 j u hj
  rw[hb.cell (World.block_lt_of_cell? w _ this)];exact this
theorem Ja {P:Program}{w W:World}{B:Nat}(hB:B=W.heap.size)(hb:Below B W w)(t ty e:TypeId)(i:TypeInfo)(z:Value)(bytes:Nat)(ht:P.underlying t=some (.slice e))(hi:P.info? e=some i)(hz:i.zero=some z)
  (hsize:i.size=1) (hby:i.bytes=bytes) (hzs:z.cells.size=1) (v:Value) (n:Nat) (xs:List Value) (hown:w.ownsRow B e 1 v n xs)
  (x:Value) (m:Nat) (news:List Value) (hsrc:SrcIs w x m news) (h63:n+m≤maxLen) (hbytes:(n+m)*bytes≤140737488355328):
  ∃v' w',(Builtin.append_ #[t,t] ty #[v,x]).run P w= .ok v' w'∧w'.ownsRow B e 1 v' (n+m) (xs++news)∧Below B W w':=by
 subst hB;obtain⟨h1,h2,h3⟩:=hsrc;rcases h3 with⟨rfl,rfl⟩|⟨ad,c,rfl,h3⟩
 ·obtain rfl:news=[]:=List.eq_nil_of_length_eq_zero h1;exact⟨v,w,run_append_owned_none w W.heap.size t ty e i 1 ht hi v n xs hown,by simpa using hown,hb⟩
 ·obtain⟨v',w',hr,hown',hgrow, -⟩:=run_append_own (P:=P) w W.heap.size t ty e i z 1 bytes ht hi hz hsize hby hzs (by omega) v n xs hown ad m c news (by omega) h3 h2 h63 hbytes hb.size;exact⟨v',w',hr,hown',hb.grown hgrow hb.size (fun k e=>(hown.lt k e).1)⟩
theorem jD {P:Program}{w:World}{ops:Array Oper}{o:Oper}{a:Act}{K:Act→World→Prop}{Q:Exit→Act→World→Prop}{E:Prop}(hgd:o.guard=none)(s x:Operand)(t:TypeId)
  (ho:o.op= .call { callee:= .builtin .append,args:= #[s,x],argTypes:= #[t,t] }) (W:World) (B:Nat) (hB:B=W.heap.size) (hb:Below B W w)
  (e:TypeId) (i:TypeInfo) (z:Value) (bytes:Nat) (ht:P.underlying t=some (.slice e)) (hi:P.info? e=some i) (hz:i.zero=some z)
  (hsize:i.size=1) (hby:i.bytes=bytes) (hzs:z.cells.size=1) (v:Value) (n:Nat) (xs:List Value) (hs:a.eval s=v) (hown:w.ownsRow B e 1 v n xs)
  (u:Value) (m:Nat) (news:List Value) (hx:a.eval x=u) (hsrc:SrcIs w u m news) (h63:n+m≤maxLen) (hbytes:(n+m)*bytes≤140737488355328)
  (h: ∀v' w',w'.ownsRow B e 1 v' (n+m) (xs++news)→Below B W w'→K (a.put o.dst v') w'):
  if Region.wanted o (yielded ops a.tmps)=true then Oper.wp P o a w K Q else E:=by
 have hw:Region.wanted o (yielded ops a.tmps)=true:=by simp[Region.wanted,hgd]
 rw[if_pos hw];obtain⟨v',w',hr,h2,h3⟩:=Ja (P:=P) hB hb t o.type e i z bytes ht hi hz hsize hby hzs v n xs hown u m news hsrc h63 hbytes;unfold Oper.wp execOp;simp only[ho,resolve,invoke,builtin,Sem.run_bind,Sem.run_pure,Result.andThen_ok,List.map_toArray,List.map_cons,List.map_nil,hs,hx,hr];exact h v' w' h2 h3
theorem qG {P:Program}{w:World}{ops:Array Oper}{o:Oper}{l:List Oper}{a:Act}{Q:Exit→Act→World→Prop}(hgd:o.guard=none)(s x:Operand)(t:TypeId)
  (ho:o.op= .call { callee:= .builtin .append,args:= #[s,x],argTypes:= #[t,t] }) (W:World) (B:Nat) (hB:B=W.heap.size) (hb:Below B W w)
  (e:TypeId) (i:TypeInfo) (z:Value) (bytes:Nat) (ht:P.underlying t=some (.slice e)) (hi:P.info? e=some i) (hz:i.zero=some z)
  (hsize:i.size=1) (hby:i.bytes=bytes) (hzs:z.cells.size=1) (v:Value) (n:Nat) (xs:List Value) (hs:a.eval s=v) (hown:w.ownsRow B e 1 v n xs)
  (u:Value) (m:Nat) (news:List Value) (hx:a.eval x=u) (hsrc:SrcIs w u m news) (h63:n+m≤maxLen) (hbytes:(n+m)*bytes≤140737488355328)
  (h: ∀v' w',w'.ownsRow B e 1 v' (n+m) (xs++news)→Below B W w'→wpList P ops Q l (a.put o.dst v') w'):wpList P ops Q (o::l) a w:=by
 have hw:Region.wanted o (yielded ops a.tmps)=true:=by simp[Region.wanted,hgd]
 unfold wpList;rw[if_pos hw];refine .inl ?_;have H:=jD (ops:=ops) (K:=wpList P ops Q l) (Q:=Q) (E:=True) hgd s x t ho W B hB hb e i z bytes ht hi hz hsize hby hzs v n xs hs hown u m news hx hsrc h63 hbytes h;rw[if_pos hw]at H;exact H
end Go.Proofs.YtdndeffmlhaipaaGreatDoor
