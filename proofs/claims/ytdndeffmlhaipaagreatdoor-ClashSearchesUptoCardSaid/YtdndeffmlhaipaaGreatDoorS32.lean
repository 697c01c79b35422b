/- A number's digits: the program's Message and the document's. No condition. -/
import Derived.Test.YtdndeffmlhaipaaGreatDoorS20
import Derived.Test.YtdndeffmlhaipaaGreatDoorS21
import Derived.Test.YtdndeffmlhaipaaGreatDoorS31
set_option linter.all false
set_option maxRecDepth 100000
set_option maxHeartbeats 8000000
namespace Go.Proofs.YtdndeffmlhaipaaGreatDoor
open Go.ChangeShapes Go.WideShapes Go.ChangeAt Go.RowKit Go.Joins Go.Shelf Go.Maps
open Go.Lib (hid)
attribute [local go_sem] Oper.semAt_some
theorem qbC: ∀(k n:Nat),n<10^(k+1)→(zC n).length≤k+1
 | 0,n,h=>by rw[zl (by simpa using h)];exact Nat.le_refl _
 | k+1,n,h=>by
  by_cases h2:n<10
  ·rw[zl h2];simp
  ·rw[J2 h2,List.length_append,List.length_singleton];have:=qbC k (n/10) (by rw[Nat.pow_succ]at h;omega)
   omega
theorem qaV (n:Nat):n≤9223372036854775808→ ∀w:World,Calls Tryz.prog 21 #[.int .u64 (n:Nat)] w fun e w'=> ∃u,e= .returned u∧w'.ownsRow w.heap.size 5 1 u (zC n).length ((zC n).map qo)∧Below w.heap.size w w':=by
 induction n using Nat.strongRecOn with
 | _ n ih=>
  intro hn w;obtain⟨i0,hi,hz0,hz1,hz2⟩:=info_parts Qg;by_cases h:n<10
  ·have hw1:IntKind.u64.wrap (48+(n:Int))=48+(n:Int):=u64_wrap_id _ (by omega) (by omega);have hw2:IntKind.u8.wrap (48+(n:Int))=48+(n:Int):=by rw[IntKind.wrap_u8]<;>omega
   have e:=zl h;clear ih;go_enter Tryz.func21,Tryz.ntmps21
   go_wp2
   go_ret
   refine⟨_,rfl,?_,Br.alloc Nl _⟩;rw[e];have:=World.ownsRow_lit (base:=w.heap.size) (e:=5) (size:=1) w #[.int .u8 (48+(n:Int))] 1 Nl (by unfold maxLen;omega) rfl
   simpa [qo] using this
  ·have hq:((n:Int).tdiv 10)=((n/10:Nat):Int):=by rw[Int.tdiv_eq_ediv_of_nonneg (by omega)];omega
   have hm:((n:Int).tmod 10)=((n%10:Nat):Int):=by rw[Int.tmod_eq_emod_of_nonneg (by omega)];omega
   have hm7:n%10<10:=Nat.mod_lt n (by omega);have hih:=ih (n/10) (by omega) (by omega) w;have hl:=qbC 18 (n/10) (by omega);have e:=hid (J2 h);generalize hm8:n%10=m at*;generalize hd8:n/10=d at*;have hw1:IntKind.u64.wrap (48+(m:Int))=48+(m:Int):=u64_wrap_id _ (by omega) (by omega);have hw2:IntKind.u8.wrap (48+(m:Int))=48+(m:Int):=by rw[IntKind.wrap_u8]<;>omega
   have hw3:IntKind.u64.wrap (m:Int)=(m:Int):=u64_wrap_id _ (by omega) (by omega);have hw4:IntKind.u64.wrap (d:Int)=(d:Int):=u64_wrap_id _ (by omega) (by omega);have HIH:=hid hih;clear ih hih hm8 hd8;obtain⟨b0,hb0⟩:=Ex w.heap.size;go_enter Tryz.func21,Tryz.ntmps21
   go_wp2_with fail
   refine HIH.out.mono ?_;rintro e1 w1 ⟨u,rfl,ho,hb⟩;obtain⟨a2,n2,c2,rfl⟩:=qp ho;have HO:=hid ho;have HB:=hid hb;have hbr:b0≤w1.heap.size:=by have:=hb.size;omega
   rw[hb0]at HO HB;clear ho hb HIH;go_wp2_with (at_builtin;refine qD rfl _ _ _ rfl w b0 hb0.symm (HB.out.alloc hbr _) 5 i0 (.int .u8 0) 1 Tryz.underlying24 hi hz0 hz1 hz2 rfl (.slice a2 n2 c2) (zC d).length _ rfl (HO.out.alloc _) _ 1 [.int .u8 (48+(m:Int))] rfl (qfM w1 _ _ rfl) (by unfold maxLen;omega) (by omega) ?_;intro v' w' hown' hb')
   go_ret
   refine⟨_,rfl,?_,hb0▸hb'⟩;rw[hb0,e.out,List.length_append,List.map_append];exact hown'
theorem qcZ (n:Nat)(hn:n≤9223372036854775807)(w:World):
  Calls Tryz.prog 8 #[.int .i64 (n:Nat)] w fun e w'=> ∃u,e= .returned u∧OwnB w.heap.size w' u (zC n)∧Below w.heap.size w w':=by
 have HI:=hid (qaV n (by omega) w);have hw:IntKind.u64.wrap (n:Int)=(n:Int):=u64_wrap_id _ (by omega) (by omega);have hq:((n:Int)<0)=False:=by simp
 go_enter Tryz.func8,Tryz.ntmps8
 go_wp2_with fail
 refine HI.out.mono ?_;rintro e w1 ⟨u,rfl,ho,hb1⟩;go_wp2
 go_ret
 exact⟨_,rfl,yj (jO _) ho,hb1⟩
theorem qcY (i:Int)(h0: -9223372036854775808≤i)(h1:i<0)(w:World):
  Calls Tryz.prog 8 #[.int .i64 i] w fun e w'=> ∃u,e= .returned u∧OwnB w.heap.size w' u (45::zC i.natAbs)∧Below w.heap.size w w':=by
 obtain⟨b0,hb0⟩:=Ex w.heap.size;obtain⟨i0,hi,hz0,hz1,hz2⟩:=info_parts Qg;obtain⟨n,hn⟩: ∃n:Nat,i.natAbs=n:=⟨_,rfl⟩;rw[hn];have hnb:n≤9223372036854775808:=by omega
 have hl:=qbC 18 n (by omega);have hw1:IntKind.u64.wrap i=i+18446744073709551616:=by unfold IntKind.wrap;simp[IntKind.bits,IntKind.signed];omega
 have hw2:IntKind.u64.wrap (-(i+18446744073709551616))=(n:Int):=by unfold IntKind.wrap;simp[IntKind.bits,IntKind.signed];omega
 have HDG:=hid (fun W:World=>qaV n hnb W);clear hn h0;go_enter Tryz.func8,Tryz.ntmps8
 go_wp2_with fail
 refine(HDG.out _).mono ?_;rintro e1 w1 ⟨u,rfl,ho,hb⟩;have hO1:(w.alloc (.cells #[.int .u8 45] 5)).ownsRow b0 5 1 (.slice (some ⟨b0,0,none⟩) 1 1) 1 [.int .u8 45]:=by
  rw[←hb0];exact World.ownsRow_lit (base:=w.heap.size) (e:=5) (size:=1) w #[.int .u8 45] 1 Nl (by unfold maxLen;omega) rfl
 have hO2:=qf hO1 (fun g _ hg=>hb.block g hg);have HS:=hid (JA ho (fun x hx=>by obtain⟨z, -,rfl⟩:=List.mem_map.1 hx;rfl));have HB:Below b0 w w1:=by
  rw[←hb0];exact(Br.alloc Nl _).trans (hb.mono (by rw[World.size_alloc];omega))
 obtain⟨a2,n2,c2,rfl⟩:=qp ho;have HB1:=hid HB;have HO2:=hid hO2;clear ho hb hO1 hO2 HB;go_wp2_with (at_builtin;refine qD rfl _ _ _ rfl w b0 hb0.symm HB1.out 5 i0 (.int .u8 0) 1 Tryz.underlying24 hi hz0 hz1 hz2 rfl _ 1 _ rfl HO2.out _ (zC n).length _ rfl HS.out (by unfold maxLen;omega) (by omega) ?_;intro v' w' hown' hb')
 go_ret
 refine⟨_,rfl,yj (n:=1+(zC n).length) (fun a ha=>?_) (by simpa [qo,hb0] using hown'),hb0▸hb'⟩;rcases List.mem_cons.1 ha with rfl|h
 ·omega
 ·exact jO _ a h
theorem qd6 (i:Int)(h0: -9223372036854775808≤i)(h1:i≤9223372036854775807)(w:World):
  Calls Tryz.prog 8 #[.int .i64 i] w fun e w'=> ∃u,e= .returned u∧OwnB w.heap.size w' u (Yl i)∧Below w.heap.size w w':=by
 by_cases h:i<0
 ·rw[qb7 h];exact qcY i h0 h w
 ·obtain⟨n,rfl⟩: ∃n:Nat,i=n:=⟨i.toNat,by omega⟩;rw[qb8];exact qcZ n (by omega) w
end Go.Proofs.YtdndeffmlhaipaaGreatDoor
