/- A round of a range over a function, where the body may panic: the panic goes up through the function that was ranged over. No condition. -/
import Derived.Test.YtdndeffmlhaipaaGreatDoorM02
import Derived.RangeFuncIn
import Derived.RangeFuncRecord
import Derived.RangeFuncLeaves
import Derived.RangeFuncSeq
set_option linter.all false
set_option maxRecDepth 100000
set_option maxHeartbeats 8000000
namespace Go.Proofs.YtdndeffmlhaipaaGreatDoor
open Go
def qb4 (P:Program)(l:Nat)(R:Ending→World→Prop):Exit→Act→World→Prop
 | .panic chain,a,w=>a.defers=[]∧R (.panicked chain) w
 | .normal,_,w=> ∃v w',(Instr.endRound l none).run P w= .ok v w'∧R (.returned v) w'
 | _,_,_=>False
theorem jq {F:Fence}{n:Nat}{P:Program}{l:Nat}{f:FuncId}{tmps:Array Value}{assign body:Code}{w:World}{R:Ending→World→Prop}(hF:F.fn f)(hf: ∃fn,P.funcs[f]? =some fn)
  (h:assign.wpIn (F.inRound l) n P (Exit.then (fun a₁ w₁=> ∃w₂,(Instr.beginRound l).run P w₁= .ok () w₂∧body.wpIn (F.inRound l) n P (qb4 P l R) a₁ w₂) (fun _ _ _=>False)) { tmps:=tmps,defers:=[] } w):
  RoundIn F n P l f tmps assign body w R:=by
 refine⟨hF,fun c cs hr=>?_⟩;let b:Frame:= { (default:Frame)with fn:=f,kind:= .normal,roundOf:=some l }
 have e0:Frame.round l f tmps assign body .normal=b.atR { tmps:=tmps,defers:=[] } [.code assign,.beginRound,.code body]:=by simp[Frame.round,Frame.atR,b]
 have hr':(F.inRound l).room ((c::cs).length+1+n):=hr;have hF':(F.inRound l).fn b.fn:=hF;obtain⟨e,a₁,w₁,hq,harr⟩:=h b [.beginRound,.code body] (c::cs) rfl hF' hr';rw[←e0]at harr
 cases e with
 | normal=>
  obtain⟨w₂,hbr,hbody⟩:=hq;have s1:StepsIn (Machine.fenced P (F.inRound l)) P (lone (b.atR a₁ [.beginRound,.code body]) (c::cs) w₁) (lone (b.atR a₁ [.code body]) (c::cs) w₂):=
   .one (fenced_calm (fr:=b.atR a₁ [.beginRound,.code body]) hF' hr' rfl) (stepR_beginRound rfl hbr)
  obtain⟨e₂,a₂,w₃,hq₂,harr₂⟩:=hbody b [] (c::cs) rfl hF' hr'
  cases e₂ with
  | normal=>
   obtain⟨v,w₄,hend,hR⟩:=hq₂;exact⟨.returned v,w₄,hR,(StepsIn.trans harr s1).trans (StepsIn.trans harr₂ (.one (fenced_calm (fr:=b.atR a₂ []) hF' hr' rfl) (stepR_round_end rfl rfl hend)))⟩
  | panic chain=>
   obtain⟨hd,hR⟩:=hq₂;obtain⟨Yx,hs⟩:=harr₂;have hlv:Frame.leaving P { b.atR a₂ Yx with mode:= .panicking chain } w₃ (.panicked chain):=⟨rfl,hd,hf⟩;exact⟨.panicked chain,w₃,hR,(StepsIn.trans harr s1).trans (StepsIn.trans hs (.one (fenced_leaving hF' hr' hlv) (step_leave_panicked hlv)))⟩
  | ret=>exact hq₂.elim
  | exit id=>exact hq₂.elim
  | goto t=>exact hq₂.elim
  | outgrown=>exact hq₂.elim
 | exit id=>exact hq.elim
 | goto t=>exact hq.elim
 | ret=>exact hq.elim
 | panic chain=>exact hq.elim
 | outgrown=>exact hq.elim
def Y6 (f:FuncId)(P:Program)(c:Code)(Q:Exit→Act→World→Prop)(a:Act)(w:World):Prop:=
 ∀(b:Frame) (k:List Item) (cs:List Frame),b.roundOf=none→b.fn=f→ ∃e a' w',Q e a' w'∧ArrivesIn (Machine.fenced P Fence.wide) P (lone (b.atR a (.code c::k)) cs w) b k cs e a' w'
section
variable {f:FuncId} {P:Program} {Q:Exit→Act→World→Prop} {a:Act} {w:World}
theorem qcD {c:Code}{n:Nat}(h:c.wpIn Fence.wide n P Q a w):Y6 f P c Q a w:=fun b k cs hro _=>h b k cs hro trivial (room_wide _)
theorem qaZ {x y:Code}(h:Y6 f P x (Exit.then (fun a w=>Y6 f P y Q a w) Q) a w):Y6 f P (.seq x y) Q a w:=by
 intro b k cs hro hb;have h0:(lone (b.atR a (.code (.seq x y)::k)) cs w).fenced P Fence.wide:=fenced_wide _ _;obtain⟨e,a₁,w₁,hq,har⟩:=h b (.code y::k) cs hro hb;by_cases en:e= .normal
 ·subst en;obtain⟨e₂,a₂,w₂,hq₂,har₂⟩:=hq b k cs hro hb;exact⟨e₂,a₂,w₂,hq₂,.of_steps (.head h0 stepR_seq har) har₂⟩
 ·have hq':Q e a₁ w₁:=by cases e<;>first|exact hq|exact absurd rfl en
  exact⟨e,a₁,w₁,hq',.of_steps (.one h0 stepR_seq) (.pass (x:= .code y) rfl (fun _ _=> .inl en) har)⟩
theorem QY {x y:Code}(h: ∀K:Act→World→Prop,(∀a w,Y6 f P y Q a w→K a w)→x.wp P (Exit.then K Q) a w):Y6 f P (.seq x y) Q a w:=qaZ (qcD (n:=9) (wpIn_wide.2 (h _ fun _ _ h=>h)))
theorem jX {x y:Code}(h: ∀QB:Exit→Act→World→Prop,(∀a w,Y6 f P y Q a w→QB .normal a w)→(∀ch a w,Q (.panic ch) a w→QB (.panic ch) a w)→Y6 f P x QB a w):Y6 f P (.seq x y) Q a w:=qaZ (h _ (fun _ _ h=>h) (fun _ _ _ h=>h))
theorem jm {c:Code}(h: ∀W,W=w→Y6 f P c Q a W):Y6 f P c Q a w:=h w rfl
theorem qeE {c:Code}(h:c.wp P Q a w):Y6 f P c Q a w:=qcD (n:=9) (wpIn_wide.2 h)
def endsQ (Q:Exit→Act→World→Prop):Exit→Act→World→Prop
 | .normal,a,w=>Q .normal a w
 | .panic ch,a,w=>Q (.panic ch) a w
 | _,_,_=>False
theorem jY {id:Nat}{c:Code}(h:Y6 f P c (endsQ Q) a w):Y6 f P (.block id c) Q a w:=by
 intro b k cs hro hb;have h0:(lone (b.atR a (.code (.block id c)::k)) cs w).fenced P Fence.wide:=fenced_wide _ _;obtain⟨e,a₁,w₁,hq,har⟩:=h b (.inBlock id::k) cs hro hb
 cases e with
 | normal=>exact⟨.normal,a₁,w₁,hq,.head h0 stepR_block (StepsIn.trans har (.one (fenced_wide _ _) stepR_inBlock))⟩
 | panic ch=>exact⟨_,a₁,w₁,hq,.of_steps (.one h0 stepR_block) har⟩
 | exit id'=>exact hq.elim
 | goto l=>exact hq.elim
 | ret=>exact hq.elim
 | outgrown=>exact hq.elim
def qd0 (P:Program)(l:Nat)(Q:Exit→Act→World→Prop)(a':Act):Ending→World→Prop
 | .returned _,w₃=> ∃w₄,(Instr.endLoop l).run P w₃= .ok none w₄∧Q .normal a' w₄
 | .panicked ch,w₃=>Q (.panic ch) a' w₃
 | .outgrown,_=>False
theorem qbN {g:Operand}{ps:Array Tmp}{assign body:Code}{n:Nat}{gf:Nat}{lb:Array Value}(hg:a.eval g= .func (.func gf) #[] lb)(eg: ∀args w,(callFunc gf args).run P w= .ok (.enter gf args) w)
  (h: ∀W1,(w.alloc (.deferred (some []))).alloc (.loop { state:= .ready,pending:=none,fn:=f,tmps:=a.tmps,params:=ps,assign,body,defers:=w.heap.size })=W1→
   CallsIn Fence.wide n P gf (#[.func (.yield (w.heap.size+1)) #[] #[]]++lb) W1 (qd0 P (w.heap.size+1) Q { a with defers:= { target:= .collected w.heap.size,args:= #[] }::a.defers })):Y6 f P (.rangeFunc g ps assign body) Q a w:=by
 intro b k cs hro hb;obtain⟨W1,hW1⟩: ∃W1,(w.alloc (.deferred (some []))).alloc (.loop { state:= .ready,pending:=none,fn:=f,tmps:=a.tmps,params:=ps,assign,body,defers:=w.heap.size })=W1:=⟨_,rfl⟩;have he:(Instr.enterLoop b.fn a.tmps ps assign body b.roundOf).run P w= .ok (w.heap.size+1,[{ target:= .collected w.heap.size,args:= #[] }]) W1:=by
  rw[hro,hb,←hW1];exact run_enterLoop_outer _ _ _ _ _
 have hres:(resolve a.eval (rangeCall g (w.heap.size+1)) 0).run P W1= .ok { target:= .fn (.func gf) lb,args:= #[.func (.yield (w.heap.size+1)) #[] #[]] } W1:=by
  simp only[resolve,hg];simp[go_sem]
 have hinv:(invoke (.fn (.func gf) lb) #[.func (.yield (w.heap.size+1)) #[] #[]]).run P W1= .ok (.enter gf (#[.func (.yield (w.heap.size+1)) #[] #[]]++lb)) W1:=by simp[invoke,go_sem,eg]
 have hent:=stepR_rangeFunc (P:=P) (b:=b) (a:=a) (k:=k) (cs:=cs) (w:=w) he hres hinv;obtain⟨hF,hcall⟩:=h W1 hW1;obtain⟨e,w₃,fr,hR,hsteps,hfn,hlv⟩:=hcall (b.atR { a with defers:=[{ target:= .collected w.heap.size,args:= #[] }]++a.defers } (.inRangeFunc (w.heap.size+1)::k)::cs) (room_wide _)
 cases e with
 | outgrown=>exact hR.elim
 | returned v=>
  obtain⟨w₄,hend,hj⟩:=hR;refine⟨.normal,_,w₄,hj,?_⟩;refine .head (fenced_wide _ _) hent (StepsIn.trans hsteps (.head (fenced_wide _ _) ?_ (.one (fenced_wide _ _) (stepR_endRangeFunc (jump:=none) hend))));rw[←finish_atR_inRangeFunc (w.heap.size+1) v];exact step_leave_returned hlv
 | panicked ch=>
  refine⟨.panic ch,_,w₃,hR,.inRangeFunc (w.heap.size+1)::k,.head (fenced_wide _ _) hent (StepsIn.trans hsteps (.one (fenced_wide _ _) ?_))⟩;rw[←Frame.raise_atR];exact step_leave_panicked hlv
theorem JS {fn:Func}{c:Code}{n:Nat}{args:Array Value}{R:Ending→World→Prop}(hf:P.funcs[f]? =some fn)(hb:fn.body=some c)
  (h:Y6 f P c (bodyPostM Fence.wide n P fn R) { tmps:=args++Array.replicate (fn.ntmps - args.size) undef,defers:=[] } w):Calls P f args w R:=by
 refine(callsIn_wide (n:=n)).1 ⟨trivial,fun cs hr=>?_⟩;let b:Frame:= { (default:Frame)with fn:=f,kind:= .normal,roundOf:=none }
 have hent:Frame.enter P f args .normal=b.atR { tmps:=args++Array.replicate (fn.ntmps - args.size) undef,defers:=[] } [.code c]:=by simp[Frame.enter,Frame.atR,hf,hb,b]
 obtain⟨e,a',w',hq,har⟩:=h b [] cs rfl rfl;rw[←hent]at har
 cases e with
 | normal=>
  obtain⟨e',w'',fr',hR,hs,hfn,hl⟩:=leaves_stepsInM a'.defers .returning w' { b.atR a' [] with mode:= .returning } cs rfl rfl rfl hf rfl trivial (room_wide _) hq;exact⟨e',w'',fr',hR,ComesIn.of_steps (StepsIn.trans har (.one (fenced_wide _ _) (stepR_end rfl))) hs,hfn,hl⟩
 | ret=>
  obtain⟨Yx,hs₀⟩:=har.1 rfl;obtain⟨e',w'',fr',hR,hs,hfn,hl⟩:=leaves_stepsInM a'.defers .returning w' { b.atR a' Yx with mode:= .returning } cs rfl rfl rfl hf rfl trivial (room_wide _) hq;exact⟨e',w'',fr',hR,ComesIn.of_steps hs₀ hs,hfn,hl⟩
 | panic ch=>
  obtain⟨Yx,hs₀⟩:=har;obtain⟨e',w'',fr',hR,hs,hfn,hl⟩:=leaves_stepsInM a'.defers (.panicking ch) w' { b.atR a' Yx with mode:= .panicking ch } cs rfl rfl rfl hf rfl trivial (room_wide _) hq;exact⟨e',w'',fr',hR,ComesIn.of_steps hs₀ hs,hfn,hl⟩
 | exit id=>exact hq.elim
 | goto l=>exact hq.elim
 | outgrown=>exact⟨.outgrown,w',b,hq,har.resolve_left (by simp[b]),rfl,trivial⟩
end
end Go.Proofs.YtdndeffmlhaipaaGreatDoor
