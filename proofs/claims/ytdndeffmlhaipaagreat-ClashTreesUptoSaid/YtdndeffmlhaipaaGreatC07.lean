/- Turns: bits.RotateLeft64 and 32, the reference's Turn64 and turn. No condition. -/
import Derived.Test.YtdndeffmlhaipaaGreatC02
import Derived.Test.YtdndeffmlhaipaaGreatC06
import Derived.Lib.SmallJoins
import Derived.Lib.EndianBits
import Derived.Lib.Hide
import Derived.BigQuiet
import Derived.Deep.QuietTactic
set_option linter.all false
set_option maxRecDepth 100000
set_option maxHeartbeats 8000000
namespace Go.Proofs.YtdndeffmlhaipaaGreat
open Go.ChangeShapes Go.WideShapes Go.ChangeAt Go.RowKit Go.Joins
open Go.Lib (hid)
attribute [local go_sem] Oper.semAt_some
theorem qgo (j r:Nat)(hr:r≤j)(x:Int):x*2^(j - r)%2^j=x%2^r*2^(j - r):=by
 have e:(2:Int)^j=2^r*2^(j - r):=by rw[←Int.pow_add,show r+(j - r)=j by omega]
 rw[e,Int.mul_comm x,Int.mul_comm (2^r),Int.mul_emod_mul_of_pos _ _ (Int.pow_pos (by decide)),Int.mul_comm]
theorem qcD (k:IntKind)(j r:Nat)(hj:j≤k.bits)(hk: ∀n:Int,0≤n→n<2^j→k.wrap n=n)(hm: ∀z,k.wrap z=z%2^j)(hr:r≤j)(x:Int)(hx:0≤x∧x<2^j):
  bits .or k (x/2^r) (k.wrap (x*2^(j - r)))=QZ j r x:=by
 have hp:(0:Int)<2^r:=Int.pow_pos (by decide);have hq:(0:Int)<2^(j - r):=Int.pow_pos (by decide);have e:(2:Int)^j=2^r*2^(j - r):=by rw[←Int.pow_add,show r+(j - r)=j by omega]
 have hb:=ZG hr hx;have m0:=Int.emod_nonneg x (Int.ne_of_gt hp);have d0:=Int.ediv_nonneg hx.1 (Int.le_of_lt hp);have d1:x/2^r<2^(j - r):=Int.ediv_lt_of_lt_mul hp (by rw[Int.mul_comm,←e];exact hx.2);have k0:0≤x%2^r*2^(j - r):=Int.mul_nonneg m0 (Int.le_of_lt hq);unfold QZ at hb⊢;rw[hm,qgo j r hr];exact bits_join_low k j hj hk (j - r) _ _ d0 d1 (by omega) k0 (Int.mul_emod_left _ _) (by omega)
theorem qds (k:IntKind)(j r:Nat)(hj:j≤k.bits)(hk: ∀n:Int,0≤n→n<2^j→k.wrap n=n)(hm: ∀z,k.wrap z=z%2^j)(hr:r≤j)(x:Int)(hx:0≤x∧x<2^j):
  bits .or k (k.wrap (x*2^(j - r))) (x/2^r)=QZ j r x:=by
 rw[←qcD k j r hj hk hm hr x hx];simp only[bits,BitVec.or_comm]
theorem JI (n:Int)(h₀:0≤n)(h₁:n<2^32):IntKind.u32.wrap n=n:=by rw[IntKind.wrap_u32];omega
theorem jb (r:Nat)(hr:r≤64)(x:Int)(hx:0≤x∧x<2^64):bits .or .u64 (x/2^r) (IntKind.u64.wrap (x*2^(64 - r)))=QZ 64 r x:=qcD .u64 64 r (by decide) wraps_u64 (fun z=>IntKind.wrap_u64 z) hr x hx
theorem z7 (r:Nat)(hr:r≤64)(x:Int)(hx:0≤x∧x<2^64):bits .or .u64 (IntKind.u64.wrap (x*2^(64 - r))) (x/2^r)=QZ 64 r x:=qds .u64 64 r (by decide) wraps_u64 (fun z=>IntKind.wrap_u64 z) hr x hx
theorem jc (r:Nat)(hr:r≤32)(x:Int)(hx:0≤x∧x<2^32):bits .or .u32 (x/2^r) (IntKind.u32.wrap (x*2^(32 - r)))=QZ 32 r x:=qcD .u32 32 r (by decide) JI (fun z=>IntKind.wrap_u32 z) hr x hx
theorem z8 (r:Nat)(hr:r≤32)(x:Int)(hx:0≤x∧x<2^32):bits .or .u32 (IntKind.u32.wrap (x*2^(32 - r))) (x/2^r)=QZ 32 r x:=qds .u32 32 r (by decide) JI (fun z=>IntKind.wrap_u32 z) hr x hx
theorem Yn {k:IntKind}{a b:Int}(h:a=b):Ending.returned (.int k a)= .returned (.int k b):=by rw[h]
theorem qgv (x:Int)(w:World)(hx:0≤x∧x<2^64):Calls Tryz.prog 182 #[.int .u64 x,.int .i64 (-32)] w fun e w'=>e= .returned (.int .u64 (QZ 64 32 x))∧w'=w:=by
 have HX:=hid (Yn (k:= .u64) (z7 32 (by decide) x hx));have hk:bits BinOp.and IntKind.u64 (IntKind.u64.wrap (-32)) 63=32:=by decide
 go_enter Tryz.func182,Tryz.ntmps182
 go_wp2
 go_ret
 exact⟨HX.out,rfl⟩
theorem qgw (x:Int)(w:World)(hx:0≤x∧x<2^64):Calls Tryz.prog 182 #[.int .u64 x,.int .i64 (-24)] w fun e w'=>e= .returned (.int .u64 (QZ 64 24 x))∧w'=w:=by
 have HX:=hid (Yn (k:= .u64) (z7 24 (by decide) x hx));have hk:bits BinOp.and IntKind.u64 (IntKind.u64.wrap (-24)) 63=40:=by decide
 go_enter Tryz.func182,Tryz.ntmps182
 go_wp2
 go_ret
 exact⟨HX.out,rfl⟩
theorem qgx (x:Int)(w:World)(hx:0≤x∧x<2^64):Calls Tryz.prog 182 #[.int .u64 x,.int .i64 (-16)] w fun e w'=>e= .returned (.int .u64 (QZ 64 16 x))∧w'=w:=by
 have HX:=hid (Yn (k:= .u64) (z7 16 (by decide) x hx));have hk:bits BinOp.and IntKind.u64 (IntKind.u64.wrap (-16)) 63=48:=by decide
 go_enter Tryz.func182,Tryz.ntmps182
 go_wp2
 go_ret
 exact⟨HX.out,rfl⟩
theorem qgu (x:Int)(w:World)(hx:0≤x∧x<2^64):Calls Tryz.prog 182 #[.int .u64 x,.int .i64 (-63)] w fun e w'=>e= .returned (.int .u64 (QZ 64 63 x))∧w'=w:=by
 have HX:=hid (Yn (k:= .u64) (z7 63 (by decide) x hx));have hk:bits BinOp.and IntKind.u64 (IntKind.u64.wrap (-63)) 63=1:=by decide
 go_enter Tryz.func182,Tryz.ntmps182
 go_wp2
 go_ret
 exact⟨HX.out,rfl⟩
theorem qgy (x:Int)(w:World)(hx:0≤x∧x<2^32):Calls Tryz.prog 183 #[.int .u32 x,.int .i64 (-16)] w fun e w'=>e= .returned (.int .u32 (QZ 32 16 x))∧w'=w:=by
 have HX:=hid (Yn (k:= .u32) (z8 16 (by decide) x hx));have hk:bits BinOp.and IntKind.u64 (IntKind.u64.wrap (-16)) 31=16:=by decide
 go_enter Tryz.func183,Tryz.ntmps183
 go_wp2
 go_ret
 exact⟨HX.out,rfl⟩
theorem qgz (x:Int)(w:World)(hx:0≤x∧x<2^32):Calls Tryz.prog 183 #[.int .u32 x,.int .i64 (-12)] w fun e w'=>e= .returned (.int .u32 (QZ 32 12 x))∧w'=w:=by
 have HX:=hid (Yn (k:= .u32) (z8 12 (by decide) x hx));have hk:bits BinOp.and IntKind.u64 (IntKind.u64.wrap (-12)) 31=20:=by decide
 go_enter Tryz.func183,Tryz.ntmps183
 go_wp2
 go_ret
 exact⟨HX.out,rfl⟩
theorem qhD (x:Int)(w:World)(hx:0≤x∧x<2^32):Calls Tryz.prog 183 #[.int .u32 x,.int .i64 (-8)] w fun e w'=>e= .returned (.int .u32 (QZ 32 8 x))∧w'=w:=by
 have HX:=hid (Yn (k:= .u32) (z8 8 (by decide) x hx));have hk:bits BinOp.and IntKind.u64 (IntKind.u64.wrap (-8)) 31=24:=by decide
 go_enter Tryz.func183,Tryz.ntmps183
 go_wp2
 go_ret
 exact⟨HX.out,rfl⟩
theorem qhE (x:Int)(w:World)(hx:0≤x∧x<2^32):Calls Tryz.prog 183 #[.int .u32 x,.int .i64 (-7)] w fun e w'=>e= .returned (.int .u32 (QZ 32 7 x))∧w'=w:=by
 have HX:=hid (Yn (k:= .u32) (z8 7 (by decide) x hx));have hk:bits BinOp.and IntKind.u64 (IntKind.u64.wrap (-7)) 31=25:=by decide
 go_enter Tryz.func183,Tryz.ntmps183
 go_wp2
 go_ret
 exact⟨HX.out,rfl⟩
theorem zT (n m:Nat)(w:World)(hm:0<m):Calls Tryz.prog 187 #[.int .i64 n,.int .i64 m] w fun e w'=>e= .returned (.int .i64 ((n%m:Nat):Int))∧w'=w:=by
 have h0:((m:Int)==0)=false:=by rw[beq_eq_false_iff_ne];omega
 have h3:((m:Int)=0)=False:=by simp;omega
 have HP:=hid (Yn (k:= .i64) (show(n:Int)%(m:Int)=((n%m:Nat):Int) from rfl));go_enter Tryz.func187,Tryz.ntmps187
 go_wp2_with fail
 go_ret
 exact⟨HP.out,rfl⟩
theorem qfz (x:Int)(w:World)(hx:0≤x∧x<2^64):Calls Tryz.prog 185 #[.int .u64 x,.int .i64 32] w fun e w'=>e= .returned (.int .u64 (QZ 64 32 x))∧ ∃m,w'=w.drewN m:=by
 have HX:=hid (Yn (k:= .u64) (jb 32 (by decide) x hx));have HR:=hid (zT 32 64 w (by decide));go_enter Tryz.func185,Tryz.ntmps185
 go_wp2_with fail
 refine HR.out.mono ?_;rintro e w1 ⟨rfl,rfl⟩;go_wp2
 go_quiet (fail)
 go_wp2
 go_ret
 exact⟨HX.out,nq,rfl⟩
theorem qfA (x:Int)(w:World)(hx:0≤x∧x<2^64):Calls Tryz.prog 185 #[.int .u64 x,.int .i64 24] w fun e w'=>e= .returned (.int .u64 (QZ 64 24 x))∧ ∃m,w'=w.drewN m:=by
 have HX:=hid (Yn (k:= .u64) (jb 24 (by decide) x hx));have HR:=hid (zT 24 64 w (by decide));go_enter Tryz.func185,Tryz.ntmps185
 go_wp2_with fail
 refine HR.out.mono ?_;rintro e w1 ⟨rfl,rfl⟩;go_wp2
 go_quiet (fail)
 go_wp2
 go_ret
 exact⟨HX.out,nq,rfl⟩
theorem qfB (x:Int)(w:World)(hx:0≤x∧x<2^64):Calls Tryz.prog 185 #[.int .u64 x,.int .i64 16] w fun e w'=>e= .returned (.int .u64 (QZ 64 16 x))∧ ∃m,w'=w.drewN m:=by
 have HX:=hid (Yn (k:= .u64) (jb 16 (by decide) x hx));have HR:=hid (zT 16 64 w (by decide));go_enter Tryz.func185,Tryz.ntmps185
 go_wp2_with fail
 refine HR.out.mono ?_;rintro e w1 ⟨rfl,rfl⟩;go_wp2
 go_quiet (fail)
 go_wp2
 go_ret
 exact⟨HX.out,nq,rfl⟩
theorem qfy (x:Int)(w:World)(hx:0≤x∧x<2^64):Calls Tryz.prog 185 #[.int .u64 x,.int .i64 63] w fun e w'=>e= .returned (.int .u64 (QZ 64 63 x))∧ ∃m,w'=w.drewN m:=by
 have HX:=hid (Yn (k:= .u64) (jb 63 (by decide) x hx));have HR:=hid (zT 63 64 w (by decide));go_enter Tryz.func185,Tryz.ntmps185
 go_wp2_with fail
 refine HR.out.mono ?_;rintro e w1 ⟨rfl,rfl⟩;go_wp2
 go_quiet (fail)
 go_wp2
 go_ret
 exact⟨HX.out,nq,rfl⟩
theorem qfC (x:Int)(w:World)(hx:0≤x∧x<2^32):Calls Tryz.prog 189 #[.int .u32 x,.int .i64 16] w fun e w'=>e= .returned (.int .u32 (QZ 32 16 x))∧w'=w:=by
 have HX:=hid (Yn (k:= .u32) (jc 16 (by decide) x hx));go_enter Tryz.func189,Tryz.ntmps189
 go_wp2
 go_ret
 exact⟨HX.out,rfl⟩
theorem qfD (x:Int)(w:World)(hx:0≤x∧x<2^32):Calls Tryz.prog 189 #[.int .u32 x,.int .i64 12] w fun e w'=>e= .returned (.int .u32 (QZ 32 12 x))∧w'=w:=by
 have HX:=hid (Yn (k:= .u32) (jc 12 (by decide) x hx));go_enter Tryz.func189,Tryz.ntmps189
 go_wp2
 go_ret
 exact⟨HX.out,rfl⟩
theorem qgl (x:Int)(w:World)(hx:0≤x∧x<2^32):Calls Tryz.prog 189 #[.int .u32 x,.int .i64 8] w fun e w'=>e= .returned (.int .u32 (QZ 32 8 x))∧w'=w:=by
 have HX:=hid (Yn (k:= .u32) (jc 8 (by decide) x hx));go_enter Tryz.func189,Tryz.ntmps189
 go_wp2
 go_ret
 exact⟨HX.out,rfl⟩
theorem qgm (x:Int)(w:World)(hx:0≤x∧x<2^32):Calls Tryz.prog 189 #[.int .u32 x,.int .i64 7] w fun e w'=>e= .returned (.int .u32 (QZ 32 7 x))∧w'=w:=by
 have HX:=hid (Yn (k:= .u32) (jc 7 (by decide) x hx));go_enter Tryz.func189,Tryz.ntmps189
 go_wp2
 go_ret
 exact⟨HX.out,rfl⟩
end Go.Proofs.YtdndeffmlhaipaaGreat
