/- Turns: bits.RotateLeft64 and 32, the reference's Turn64 and turn. No condition. -/
import Derived.Test.YtdndeffmlhaipaaGreatDoorM02
import Derived.Test.YtdndeffmlhaipaaGreatDoorM06
import Derived.Lib.SmallJoins
import Derived.Lib.EndianBits
import Derived.Lib.Hide
import Derived.BigQuiet
import Derived.Deep.QuietTactic
set_option linter.all false
set_option maxRecDepth 100000
set_option maxHeartbeats 8000000
namespace Go.Proofs.YtdndeffmlhaipaaGreatDoor
open Go.ChangeShapes Go.WideShapes Go.ChangeAt Go.RowKit Go.Joins
open Go.Lib (hid)
attribute [local go_sem] Oper.semAt_some
theorem qdN (j r:Nat)(hr:r≤j)(x:Int):x*2^(j - r)%2^j=x%2^r*2^(j - r):=by
 have e:(2:Int)^j=2^r*2^(j - r):=by rw[←Int.pow_add,show r+(j - r)=j by omega]
 rw[e,Int.mul_comm x,Int.mul_comm (2^r),Int.mul_emod_mul_of_pos _ _ (Int.pow_pos (by decide)),Int.mul_comm]
theorem qeO (k:IntKind)(j r:Nat)(hj:j≤k.bits)(hk: ∀n:Int,0≤n→n<2^j→k.wrap n=n)(hm: ∀z,k.wrap z=z%2^j)(hr:r≤j)(x:Int)(hx:0≤x∧x<2^j):
  bits .or k (x/2^r) (k.wrap (x*2^(j - r)))=yk j r x:=by
 have hp:(0:Int)<2^r:=Int.pow_pos (by decide);have hq:(0:Int)<2^(j - r):=Int.pow_pos (by decide);have e:(2:Int)^j=2^r*2^(j - r):=by rw[←Int.pow_add,show r+(j - r)=j by omega]
 have hb:=zd hr hx;have m0:=Int.emod_nonneg x (Int.ne_of_gt hp);have d0:=Int.ediv_nonneg hx.1 (Int.le_of_lt hp);have d1:x/2^r<2^(j - r):=Int.ediv_lt_of_lt_mul hp (by rw[Int.mul_comm,←e];exact hx.2);have k0:0≤x%2^r*2^(j - r):=Int.mul_nonneg m0 (Int.le_of_lt hq);unfold yk at hb⊢;rw[hm,qdN j r hr];exact bits_join_low k j hj hk (j - r) _ _ d0 d1 (by omega) k0 (Int.mul_emod_left _ _) (by omega)
theorem qa4 (k:IntKind)(j r:Nat)(hj:j≤k.bits)(hk: ∀n:Int,0≤n→n<2^j→k.wrap n=n)(hm: ∀z,k.wrap z=z%2^j)(hr:r≤j)(x:Int)(hx:0≤x∧x<2^j):
  bits .or k (k.wrap (x*2^(j - r))) (x/2^r)=yk j r x:=by
 rw[←qeO k j r hj hk hm hr x hx];simp only[bits,BitVec.or_comm]
theorem qcY (n:Int)(h₀:0≤n)(h₁:n<2^32):IntKind.u32.wrap n=n:=by rw[IntKind.wrap_u32];omega
theorem YL (r:Nat)(hr:r≤64)(x:Int)(hx:0≤x∧x<2^64):bits .or .u64 (IntKind.u64.wrap (x*2^(64 - r))) (x/2^r)=yk 64 r x:=qa4 .u64 64 r (by decide) wraps_u64 (fun z=>IntKind.wrap_u64 z) hr x hx
theorem YM (r:Nat)(hr:r≤32)(x:Int)(hx:0≤x∧x<2^32):bits .or .u32 (IntKind.u32.wrap (x*2^(32 - r))) (x/2^r)=yk 32 r x:=qa4 .u32 32 r (by decide) qcY (fun z=>IntKind.wrap_u32 z) hr x hx
theorem jr {k:IntKind}{a b:Int}(h:a=b):Ending.returned (.int k a)= .returned (.int k b):=by rw[h]
theorem qdV (x:Int)(w:World)(hx:0≤x∧x<2^64):Calls Tryz.prog 166 #[.int .u64 x,.int .i64 (-32)] w fun e w'=>e= .returned (.int .u64 (yk 64 32 x))∧w'=w:=by
 have HX:=hid (jr (k:= .u64) (YL 32 (by decide) x hx));have hk:bits BinOp.and IntKind.u64 (IntKind.u64.wrap (-32)) 63=32:=by decide
 go_enter Tryz.func166,Tryz.ntmps166
 go_wp2
 go_ret
 exact⟨HX.out,rfl⟩
theorem qdW (x:Int)(w:World)(hx:0≤x∧x<2^64):Calls Tryz.prog 166 #[.int .u64 x,.int .i64 (-24)] w fun e w'=>e= .returned (.int .u64 (yk 64 24 x))∧w'=w:=by
 have HX:=hid (jr (k:= .u64) (YL 24 (by decide) x hx));have hk:bits BinOp.and IntKind.u64 (IntKind.u64.wrap (-24)) 63=40:=by decide
 go_enter Tryz.func166,Tryz.ntmps166
 go_wp2
 go_ret
 exact⟨HX.out,rfl⟩
theorem qdX (x:Int)(w:World)(hx:0≤x∧x<2^64):Calls Tryz.prog 166 #[.int .u64 x,.int .i64 (-16)] w fun e w'=>e= .returned (.int .u64 (yk 64 16 x))∧w'=w:=by
 have HX:=hid (jr (k:= .u64) (YL 16 (by decide) x hx));have hk:bits BinOp.and IntKind.u64 (IntKind.u64.wrap (-16)) 63=48:=by decide
 go_enter Tryz.func166,Tryz.ntmps166
 go_wp2
 go_ret
 exact⟨HX.out,rfl⟩
theorem qdU (x:Int)(w:World)(hx:0≤x∧x<2^64):Calls Tryz.prog 166 #[.int .u64 x,.int .i64 (-63)] w fun e w'=>e= .returned (.int .u64 (yk 64 63 x))∧w'=w:=by
 have HX:=hid (jr (k:= .u64) (YL 63 (by decide) x hx));have hk:bits BinOp.and IntKind.u64 (IntKind.u64.wrap (-63)) 63=1:=by decide
 go_enter Tryz.func166,Tryz.ntmps166
 go_wp2
 go_ret
 exact⟨HX.out,rfl⟩
theorem qdY (x:Int)(w:World)(hx:0≤x∧x<2^32):Calls Tryz.prog 167 #[.int .u32 x,.int .i64 (-16)] w fun e w'=>e= .returned (.int .u32 (yk 32 16 x))∧w'=w:=by
 have HX:=hid (jr (k:= .u32) (YM 16 (by decide) x hx));have hk:bits BinOp.and IntKind.u64 (IntKind.u64.wrap (-16)) 31=16:=by decide
 go_enter Tryz.func167,Tryz.ntmps167
 go_wp2
 go_ret
 exact⟨HX.out,rfl⟩
theorem qdZ (x:Int)(w:World)(hx:0≤x∧x<2^32):Calls Tryz.prog 167 #[.int .u32 x,.int .i64 (-12)] w fun e w'=>e= .returned (.int .u32 (yk 32 12 x))∧w'=w:=by
 have HX:=hid (jr (k:= .u32) (YM 12 (by decide) x hx));have hk:bits BinOp.and IntKind.u64 (IntKind.u64.wrap (-12)) 31=20:=by decide
 go_enter Tryz.func167,Tryz.ntmps167
 go_wp2
 go_ret
 exact⟨HX.out,rfl⟩
theorem qeP (x:Int)(w:World)(hx:0≤x∧x<2^32):Calls Tryz.prog 167 #[.int .u32 x,.int .i64 (-8)] w fun e w'=>e= .returned (.int .u32 (yk 32 8 x))∧w'=w:=by
 have HX:=hid (jr (k:= .u32) (YM 8 (by decide) x hx));have hk:bits BinOp.and IntKind.u64 (IntKind.u64.wrap (-8)) 31=24:=by decide
 go_enter Tryz.func167,Tryz.ntmps167
 go_wp2
 go_ret
 exact⟨HX.out,rfl⟩
theorem qeQ (x:Int)(w:World)(hx:0≤x∧x<2^32):Calls Tryz.prog 167 #[.int .u32 x,.int .i64 (-7)] w fun e w'=>e= .returned (.int .u32 (yk 32 7 x))∧w'=w:=by
 have HX:=hid (jr (k:= .u32) (YM 7 (by decide) x hx));have hk:bits BinOp.and IntKind.u64 (IntKind.u64.wrap (-7)) 31=25:=by decide
 go_enter Tryz.func167,Tryz.ntmps167
 go_wp2
 go_ret
 exact⟨HX.out,rfl⟩
end Go.Proofs.YtdndeffmlhaipaaGreatDoor
