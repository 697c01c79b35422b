/- Parameters that may be pass, by the program and by the reference. No condition. -/
import Derived.Test.YtdndeffmlhaipaaGreatDoorM16
set_option linter.all false
set_option maxRecDepth 100000
set_option maxHeartbeats 8000000
namespace Go.Proofs.YtdndeffmlhaipaaGreatDoor
open Go.ChangeShapes Go.WideShapes Go.ChangeAt Go.RowKit Go.Joins Go.Shelf Go.Maps
attribute [local go_sem] Oper.semAt_some
def Zo (dg ky fo dp lf ofs xo nd inr:Int)(sa pe:Value):Value:= .agg #[.int .i64 dg,.int .i64 ky,.int .i64 fo,.int .i64 dp,.int .u32 lf,.int .u64 ofs,.int .u32 xo,.int .i64 nd,.int .i64 inr,sa,pe]
def okC (big:Bool)(dg ky dp xo inr:Int):Prop:=(1≤dg∧dg≤(mB big:Nat))∧(0≤ky∧ky≤(mB big:Nat))∧(xo=0→1≤dp)∧(0≤inr∧inr≤(mB big:Nat))
structure okP (big:Bool)(dg ky fo dp ofs nd inr:Int):Prop where
 dg:1≤dg∧dg≤(mB big:Nat)
 ky:0≤ky∧ky≤(mB big:Nat)
 fo:0≤fo∧fo≤255
 dp:1≤dp∧dp≤255
 ofs:0≤ofs∧(big=false→ofs<281474976710656)
 nd:0≤nd∧nd≤255
 inr:0≤inr∧inr≤(mB big:Nat)
theorem Ju (big:Bool)(dg ky fo dp lf ofs nd inr:Int)(a1 a2:Option Addr)(l1 l2 c1 c2:Nat)(w:World)(h:okP big dg ky fo dp ofs nd inr)(hl1:l1≤sB big)(hl2:l2≤sB big):
  Calls Tryz.prog 53 #[.int .i64 (kB big),Zo dg ky fo dp lf ofs 0 nd inr (.slice a1 l1 c1) (.slice a2 l2 c2)] w fun e w'=>e= .returned (.int .i64 0)∧Below w.heap.size w w':=by
 obtain⟨q1,q2,q3,q4,⟨q5,q6⟩,q7,q8⟩:=h;have hs:=fun w=>za big w
 unfold Zo
 cases big
 all_goals
  first
  | (have q9:=q6 rfl)
  | skip
  clear q6;simp only[kB,mB,sB,cond]at hs q1 q2 q8 hl1 hl2⊢;go_enter Tryz.func53,Tryz.ntmps53
  go_wp2_with fail
  refine(hs _).mono ?_;rintro e w1 ⟨rfl,rfl⟩;iterate 6
   go_wp2_with fail
   refine(qc0 _ _ _ true (decide_eq_true (by omega)).symm _).mono ?_;rintro e w2 ⟨rfl,rfl⟩
  go_wp2_with fail
  go_ret
  exact⟨rfl,Br.alloc Nl _⟩
end Go.Proofs.YtdndeffmlhaipaaGreatDoor
