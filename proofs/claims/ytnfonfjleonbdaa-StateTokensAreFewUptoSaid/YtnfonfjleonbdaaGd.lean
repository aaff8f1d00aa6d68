/- Joined by program: parts of a data level over the model, of the program's functions over it, and of the statement's proof. -/
import Derived.Test.YtnfonfjleonbdaaProg
import Derived.Test.YtnfonfjleonbdaaGc
import Derived.KernelRfl
import Derived.Sort.Walk0
import Derived.WalkKit
import Derived.Lib.Walk
import Derived.Lib.SliceRun
import Derived.Laws.NewBlocks
import Derived.Laws.Externs
import Derived.Shelf.RegionOpenPlain
import Derived.Shelf.Lays8
import Derived.LoopN
import Derived.Shelf.SlLaysF0
import Derived.Shelf.SlGeneric
set_option maxRecDepth 100000
set_option maxHeartbeats 8000000
noncomputable section
namespace Go.DL
abbrev Kc (n:Int):O:=.const (.int .i64 n)
abbrev Zi (n:Int):T:=.int .i64 n
abbrev Ui (n:Int):T:=.int .u8 n
abbrev tm (n:Nat):O:=.tmp n
abbrev mv (d s:Nat):DI:=⟨some d,.mov (.tmp s),none,[]⟩
abbrev mF (d s g:Nat):DI:=⟨some d,.mov (.tmp s),some (g,false),[]⟩
abbrev mT (d s g:Nat):DI:=⟨some d,.mov (.tmp s),some (g,true),[]⟩
abbrev oo (d:Nat) (p:DOp):DI:=⟨some d,p,none,[]⟩
abbrev oF (d g:Nat) (p:DOp):DI:=⟨some d,p,some (g,false),[]⟩
abbrev oT (d g:Nat) (p:DOp):DI:=⟨some d,p,some (g,true),[]⟩
abbrev o0 (p:DOp):DI:=⟨none,p,none,[]⟩
abbrev ld (d a:Nat):DI:=⟨some d,.load 1 false (.tmp a),none,[]⟩
abbrev lA (d n a:Nat):DI:=⟨some d,.load n true (.tmp a),none,[]⟩
abbrev fa (d k a:Nat):DI:=⟨some d,.offA k (.tmp a),none,[]⟩
abbrev ix (d z a b:Nat):DI:=⟨some d,.idxL z (.tmp a) (.tmp b),none,[]⟩
abbrev ln (d a:Nat):DI:=⟨some d,.len (.tmp a),none,[]⟩
abbrev kT:O:=.const (.bool true)
abbrev kF:O:=.const (.bool false)
abbrev S0:T:=.str ⟨#[]⟩
abbrev Z0:T:=.int .i64 0
end Go.DL
namespace Go.MM
open Go Go.DL Go.Proofs
def c24:ba:=(.seq (.region [⟨some 4,.alloc [S0,Z0,Z0],none,[]⟩,oo 5 (.mov kF)] []) (.seq (.seq (.region [mv 7 1,⟨some 8,.bin .eql (tm 7) (.const (.str ⟨#[112,111,114,116]⟩)),none,[]⟩] []) (.cond (tm 8) (.seq (.region [oo 9 (.call 49 []),o0 (.store 3 (tm 4) (tm 9)),oo 5 (.mov kT)] []) .ret) .skip)) (.seq (.seq (.region [oo 6 (.mov (Kc 0))] []) (.block 0 (.loop (.seq (.seq (.region [mv 10 6,mv 11 0,ln 12 11,oo 13 (.bin .lss (tm 10) (tm 12))] []) (.cond (tm 13) .skip (.exit 0))) (.seq (.block 1 (.seq (.region [mv 16 0,mv 17 6,ix 18 3 16 17,fa 19 0 18,ld 20 19,mv 21 1,oo 22 (.bin .eql (tm 20) (tm 21))] []) (.cond (tm 22) (.seq (.region [mv 23 0,mv 24 6,ix 25 3 23 24,lA 26 3 25,o0 (.store 3 (tm 4) (tm 26)),oo 5 (.mov kT)] []) .ret) .skip))) (.region [mv 14 6,oo 15 (.bin .add (tm 14) (Kc 1)),mv 6 15] [])))))) (.seq (.region [⟨some 27,.build [S0,Z0,Z0] [],none,[]⟩,o0 (.store 3 (tm 4) (tm 27)),oo 5 (.mov kF)] []) .ret))))
theorem l24:(Try.f24.body.bind (bo Try.prog 28 []))=some c24:=by kernel_rfl
def c25:ba:=(.seq (.region [oo 2 (.box 3 (tm 0)),oo 3 (.box 10 (tm 1)),oo 4 (.mov (Kc 0))] []) (.seq (.region [fa 5 1 2,ld 6 5,oo 7 (.bin .quo (tm 6) (Kc 16)),oo 8 (.idxA 10 1 (tm 3) (tm 7)),ld 9 8,lA 10 3 2,oo 11 (.call 50 [tm 10]),oo 12 (.bin .quo (tm 9) (tm 11)),fa 13 2 2,ld 14 13,oo 15 (.call 51 [tm 14]),oo 16 (.bin .rem (tm 12) (tm 15)),mv 4 16] []) .ret))
theorem l25:(Try.f25.body.bind (bo Try.prog 17 []))=some c25:=by kernel_rfl
def c44:ba:=(.seq (.region [oo 3 (.box 1 (tm 1)),⟨some 4,.alloc [S0,Z0,Z0],none,[]⟩,oo 5 (.mov kF)] []) (.seq (.seq (.region [ld 7 3,oo 8 (.call 69 []),oo 9 (.fld 0 1 false (tm 8)),oo 10 (.bin .eql (tm 7) (tm 9))] []) (.cond (tm 10) (.seq (.region [oo 11 (.call 69 []),o0 (.store 3 (tm 4) (tm 11)),oo 5 (.mov kT)] []) .ret) .skip)) (.seq (.region [mv 12 0,oo 13 (.mkfn 71 [tm 3]),oo 14 (.call 70 [(tm 12),(tm 13)]),mv 6 14] []) (.seq (.seq (.region [mv 15 6,oo 16 (.bin .lss (tm 15) (Kc 0))] []) (.cond (tm 16) (.seq (.region [⟨some 17,.build [S0,Z0,Z0] [],none,[]⟩,o0 (.store 3 (tm 4) (tm 17)),oo 5 (.mov kF)] []) .ret) .skip)) (.seq (.region [mv 18 0,mv 19 6,ix 20 3 18 19,lA 21 3 20,o0 (.store 3 (tm 4) (tm 21)),oo 5 (.mov kT)] []) .ret)))))
theorem l44:(Try.f44.body.bind (bo Try.prog 22 []))=some c44:=by kernel_rfl
def c45:ba:=(.seq (.region [oo 2 (.box 3 (tm 0)),oo 3 (.box 10 (tm 1)),oo 4 (.mov (Kc 0))] []) (.seq (.region [fa 5 1 2,ld 6 5,oo 7 (.bin .quo (tm 6) (Kc 16)),oo 8 (.idxA 10 1 (tm 3) (tm 7)),ld 9 8,lA 10 3 2,oo 11 (.call 72 [tm 10]),oo 12 (.bin .shr (tm 9) (tm 11)),lA 13 3 2,oo 14 (.call 66 [tm 13]),oo 15 (.bin .and (tm 12) (tm 14)),mv 4 15] []) .ret))
theorem l45:(Try.f45.body.bind (bo Try.prog 16 []))=some c45:=by kernel_rfl
def c49:ba:=(.seq (.region [⟨some 0,.alloc [S0,Z0,Z0],none,[]⟩] []) (.seq (.region [⟨some 1,.build [S0,Z0,Z0] [(0,1,(.const (.str ⟨#[112,111,114,116]⟩))),(1,1,(Kc 0)),(2,1,(Kc 16))],none,[]⟩,o0 (.store 3 (tm 0) (tm 1))] []) .ret))
theorem l49:(Try.f49.body.bind (bo Try.prog 2 []))=some c49:=by kernel_rfl
def c50:ba:=(.seq (.region [oo 1 (.box 3 (tm 0)),oo 2 (.mov (Kc 0))] []) (.seq (.region [fa 3 1 1,ld 4 3,oo 5 (.bin .rem (tm 4) (Kc 16)),oo 6 (.bin .sub (Kc 16) (tm 5)),fa 7 2 1,ld 8 7,oo 9 (.bin .sub (tm 6) (tm 8)),oo 10 (.call 51 [tm 9]),mv 2 10] []) .ret))
theorem l50:(Try.f50.body.bind (bo Try.prog 11 []))=some c50:=by kernel_rfl
def c51:ba:=(.seq (.region [oo 2 (.mov (Kc 0))] []) (.seq (.region [oo 3 (.mov (Kc 1))] []) (.seq (.seq (.region [oo 4 (.mov (Kc 0))] []) (.block 0 (.loop (.seq (.seq (.region [mv 5 4,mv 6 0,oo 7 (.bin .lss (tm 5) (tm 6))] []) (.cond (tm 7) .skip (.exit 0))) (.seq (.block 1 (.region [mv 10 3,oo 11 (.bin .mul (tm 10) (Kc 2)),mv 3 11] [])) (.region [mv 8 4,oo 9 (.bin .add (tm 8) (Kc 1)),mv 4 9] [])))))) (.seq (.region [mv 12 3,mv 2 12] []) .ret))))
theorem l51:(Try.f51.body.bind (bo Try.prog 13 []))=some c51:=by kernel_rfl
def c85:ba:=(.seq (.region [oo 4 (.mov (Kc 0))] []) (.seq (.region [mv 7 0,oo 8 (.call 95 [tm 7]),mv 5 8] []) (.seq (.region [mv 9 1,oo 10 (.call 95 [tm 9]),mv 6 10] []) (.seq (.seq (.region [mv 11 5] []) (.cond (tm 11) (.seq (.seq (.region [mv 12 6] []) (.cond (tm 12) (.seq (.region [oo 4 (.mov (Kc 0))] []) .ret) .skip)) (.seq (.region [oo 4 (.mov (.const (.int .i64 (-1))))] []) .ret)) .skip)) (.seq (.seq (.region [mv 13 6] []) (.cond (tm 13) (.seq (.region [oo 4 (.mov (Kc 1))] []) .ret) .skip)) (.seq (.seq (.region [mv 14 0,mv 15 1,oo 16 (.bin .lss (tm 14) (tm 15))] []) (.cond (tm 16) (.seq (.region [oo 4 (.mov (.const (.int .i64 (-1))))] []) .ret) .skip)) (.seq (.seq (.region [mv 17 0,mv 18 1,oo 19 (.bin .gtr (tm 17) (tm 18))] []) (.cond (tm 19) (.seq (.region [oo 4 (.mov (Kc 1))] []) .ret) .skip)) (.seq (.region [oo 4 (.mov (Kc 0))] []) .ret))))))))
theorem l85:(Try.f85.body.bind (bo Try.prog 20 []))=some c85:=by kernel_rfl
def c69:ba:=(.seq (.region [⟨some 0,.alloc [S0,Z0,Z0],none,[]⟩] []) (.seq (.region [⟨some 1,.build [S0,Z0,Z0] [(0,1,(.const (.str ⟨#[112,111,114,116]⟩))),(2,1,(Kc 16))],none,[]⟩,o0 (.store 3 (tm 0) (tm 1))] []) .ret))
theorem l69:(Try.f69.body.bind (bo Try.prog 2 []))=some c69:=by kernel_rfl
def c70:ba:=(.seq (.region [oo 4 (.mov (Kc 0))] []) (.seq (.seq (.region [mv 6 0,ln 7 6,oo 8 (.mov (Kc 0))] []) (.block 0 (.loop (.seq (.region [oo 9 (.bin .lss (tm 8) (tm 7))] []) (.seq (.cond (tm 9) .skip (.exit 0)) (.seq (.block 1 (.seq (.region [mv 10 8,mv 5 10] []) (.seq (.region [mv 11 1,mv 12 0,mv 13 5,ix 14 3 12 13,lA 15 3 14,oo 16 (.bO (tm 11) [tm 15])] []) (.cond (tm 16) (.seq (.region [mv 17 5,mv 4 17] []) .ret) .skip)))) (.region [oo 18 (.bin .add (tm 8) (Kc 1)),mv 8 18] []))))))) (.seq (.region [oo 4 (.mov (.const (.int .i64 (-1))))] []) .ret)))
theorem l70:(Try.f70.body.bind (bo Try.prog 19 []))=some c70:=by kernel_rfl
def c71:ba:=(.seq (.region [oo 2 (.box 3 (tm 0)),oo 3 (.mov kF)] []) (.seq (.region [fa 4 0 2,ld 5 4,ld 6 1,oo 7 (.bin .eql (tm 5) (tm 6)),mv 3 7] []) .ret))
theorem l71:(Try.f71.body.bind (bo Try.prog 8 []))=some c71:=by kernel_rfl
def c66:ba:=(.seq (.region [oo 1 (.box 3 (tm 0)),oo 2 (.mov (Kc 0))] []) (.seq (.region [fa 3 2 1,ld 4 3,oo 5 (.bin .shl (Kc 1) (tm 4)),oo 6 (.bin .sub (tm 5) (Kc 1)),mv 2 6] []) .ret))
theorem l66:(Try.f66.body.bind (bo Try.prog 7 []))=some c66:=by kernel_rfl
def c65:ba:=(.seq (.region [oo 3 (.box 3 (tm 0)),oo 4 (.box 10 (tm 1)),oo 6 (.alloc [Z0,Z0,Z0,Z0,Z0,Z0,Z0,Z0,Z0,Z0])] []) (.seq (.region [fa 8 1 3,ld 9 8,oo 10 (.bin .quo (tm 9) (Kc 16)),oo 11 (.idxA 10 1 (tm 4) (tm 10)),mv 7 11] []) (.seq (.region [mv 12 7,mv 13 7,oo 14 (.nilck (tm 13)),ld 15 14,lA 16 3 3,oo 17 (.call 66 [tm 16]),lA 18 3 3,oo 19 (.call 72 [tm 18]),oo 20 (.bin .shl (tm 17) (tm 19)),oo 21 (.bin .andNot (tm 15) (tm 20)),mv 22 2,lA 23 3 3,oo 24 (.call 72 [tm 23]),oo 25 (.bin .shl (tm 22) (tm 24)),oo 26 (.bin .or (tm 21) (tm 25)),oo 27 (.nilck (tm 12)),o0 (.store 1 (tm 27) (tm 26))] []) (.seq (.region [lA 28 10 4,o0 (.store 10 (tm 6) (tm 28))] []) .ret))))
theorem l65:(Try.f65.body.bind (bo Try.prog 29 []))=some c65:=by kernel_rfl
def c72:ba:=(.seq (.region [oo 1 (.box 3 (tm 0)),oo 2 (.mov (Kc 0))] []) (.seq (.region [fa 3 1 1,ld 4 3,oo 5 (.bin .rem (tm 4) (Kc 16)),oo 6 (.bin .sub (Kc 16) (tm 5)),fa 7 2 1,ld 8 7,oo 9 (.bin .sub (tm 6) (tm 8)),mv 2 9] []) .ret))
theorem l72:(Try.f72.body.bind (bo Try.prog 10 []))=some c72:=by kernel_rfl
def c95:ba:=(.seq (.region [oo 2 (.mov kF)] []) (.seq (.region [mv 3 0,mv 4 0,oo 5 (.bin .neq (tm 3) (tm 4)),mv 2 5] []) .ret))
theorem l95:(Try.f95.body.bind (bo Try.prog 6 []))=some c95:=by kernel_rfl
end Go.MM
end
section
namespace Go.MM
open Go Go.DL
instance : Glb := ⟨fun _ => none⟩
end Go.MM
end
section
namespace Go.MM
open Go Go.DL Go.Proofs
theorem mixed:Try.prog.follows .mixedOrders=true:=by kernel_rfl
abbrev I (n:Int):T:=.int .i64 n
def hd (h:List Int):T:=.agg (h.map I)
theorem getD_map {α β:Type} (f:α→β) (l:List α) (i:Nat) (d:β) (h:i<l.length):(l.map f)[i]?.getD d=f l[i]:=by simp [h]
def rX (h:List Int):Bool:=h.all fun x=>decide (0≤x)&&decide (x≤65535)
end Go.MM
end
section
end
section
namespace Go.MM
open Go Go.DL Go.Proofs
abbrev Au:List T:=[I 0,I 0,I 0,I 0,I 0,I 0,I 0,I 0,I 0,I 0]
end Go.MM
end
section
namespace Go.MM
open Go Go.DL Go.Proofs
theorem rT {n:Nat} (h:n<2^63):IntKind.wrap .i64 (n:Int)=n:=lS (by omega) (by omega)
theorem rA (x:Nat):BitVec.ofInt 64 (x:Int)=BitVec.ofNat 64 x:=by simp
theorem xM {x y:Nat} (hx:x<2^63) (hy:y<2^63):gK .and .i64 x y=((x &&& y:Nat):Int):=by
 show IntKind.wrap .i64 (((BitVec.ofInt 64 (x:Int) &&& BitVec.ofInt 64 (y:Int)).toNat:Nat):Int)=_
 rw [rA,rA]
 rw [BitVec.toNat_and,BitVec.toNat_ofNat,BitVec.toNat_ofNat,Nat.mod_eq_of_lt (by omega),Nat.mod_eq_of_lt (by omega)]
 exact rT (Nat.lt_of_le_of_lt Nat.and_le_left hx)
theorem yx {x y:Nat} (hx:x<2^63) (hy:y<2^63):gK .or .i64 x y=((x ||| y:Nat):Int):=by
 show IntKind.wrap .i64 (((BitVec.ofInt 64 (x:Int) ||| BitVec.ofInt 64 (y:Int)).toNat:Nat):Int)=_
 rw [rA,rA]
 rw [BitVec.toNat_or,BitVec.toNat_ofNat,BitVec.toNat_ofNat,Nat.mod_eq_of_lt (by omega),Nat.mod_eq_of_lt (by omega)]
 exact rT (Nat.or_lt_two_pow hx hy)
def clr (x y:Nat):Nat:=x ^^^ (x &&& y)
theorem u7 (x y j:Nat):(clr x y).testBit j=(x.testBit j&& !y.testBit j):=by
 unfold clr
 rw [Nat.testBit_xor,Nat.testBit_and]
 cases x.testBit j <;> cases y.testBit j <;> rfl
theorem vr {x y:Nat} (hx:x<2^63) (_:y<2^63):gK .andNot .i64 x y=((clr x y:Nat):Int):=by
 show IntKind.wrap .i64 (((BitVec.ofInt 64 (x:Int) &&& ~~~BitVec.ofInt 64 (y:Int)).toNat:Nat):Int)=_
 rw [rA,rA]
 have e:(BitVec.ofNat 64 x &&& ~~~BitVec.ofNat 64 y).toNat=clr x y:=by
  refine Nat.eq_of_testBit_eq fun j=>?_
  rw [u7,BitVec.testBit_toNat,BitVec.getLsbD_and,BitVec.getLsbD_not,BitVec.getLsbD_ofNat,BitVec.getLsbD_ofNat]
  by_cases hj:j<64
  ·simp [hj]
  ·have:x.testBit j=false:=Nat.testBit_lt_two_pow (Nat.lt_of_lt_of_le hx (Nat.pow_le_pow_right (by decide) (by omega)))
   simp [hj,this]
 rw [e]
 have:clr x y<2^63:=Nat.xor_lt_two_pow hx (Nat.lt_of_le_of_lt Nat.and_le_left hx)
 exact rT this
def yH (x s w:Nat):Nat:=(x / 2^s) % 2^w
def tO (x s w n:Nat):Nat:=(x / 2^(s+w)) * 2^(s+w)+n * 2^s+x % 2^s
theorem uN {x s w n:Nat} (hn:n<2^w) (j:Nat):(tO x s w n).testBit j=if j<s then x.testBit j else if j<s+w then n.testBit (j - s) else x.testBit j:=by
 have hlo:x % 2^s<2^s:=Nat.mod_lt _ (Nat.two_pow_pos _)
 have hmid:n * 2^s+x % 2^s<2^(s+w):=by
  rw [Nat.pow_add,Nat.mul_comm (2^s)]
  calc n * 2^s+x % 2^s<n * 2^s+2^s:=by omega
   _=(n+1) * 2^s:=by rw [Nat.add_mul,Nat.one_mul]
   _≤2^w * 2^s:=Nat.mul_le_mul_right _ hn
 unfold tO
 rw [Nat.add_assoc,Nat.mul_comm (x / 2^(s+w)),Nat.testBit_two_pow_mul_add _ hmid]
 by_cases h1:j<s+w
 ·rw [if_pos h1,Nat.mul_comm n,Nat.testBit_two_pow_mul_add _ hlo]
  by_cases h2:j<s
  ·rw [if_pos h2,if_pos h2,Nat.testBit_mod_two_pow];simp [h2]
  ·rw [if_neg h2,if_neg h2,if_pos h1]
 ·rw [if_neg h1,if_neg (by omega),if_neg h1,Nat.testBit_div_two_pow]
  congr 1;omega
end Go.MM
end
section
namespace Go.MM
open Go Go.DL Go.Proofs
structure Fd where
 name:ByteArray
 a:Nat
 w:Nat
deriving Inhabited
def fd (f:Fd):T:=.agg [.str f.name,I f.a,I f.w]
structure FOk (f:Fd):Prop where
 a:f.a<160
 w1:1≤f.w
 w2:f.a % 16+f.w≤16
def Fd.s (f:Fd):Nat:=16 - f.a % 16 - f.w
def Fd.i (f:Fd):Nat:=f.a / 16
theorem FOk.i {f:Fd} (h:FOk f):f.i<10:=by have:=h.a;unfold Fd.i;omega
theorem FOk.sw {f:Fd} (h:FOk f):f.s+f.w≤16:=by have:=h.w2;unfold Fd.s;omega
structure HOk (h:List Int):Prop where
 len:h.length=10
 right:rX h=true
def wd (h:List Int) (i:Nat):Nat:=(h[i]?.getD 0).toNat
theorem HOk.wd {h:List Int} (hh:HOk h) (i:Nat):MM.wd h i<65536:=by
 unfold MM.wd
 cases hx:h[i]? with
 |none=>simp
 |some x=>
  have:=hh.right
  unfold rX at this
  rw [List.all_eq_true] at this
  have:=this x (List.mem_of_getElem? hx)
  simp at this ⊢
  omega
theorem HOk.get {h:List Int} (hh:HOk h) {i:Nat} (hi:i<10):h[i]'(by rw [hh.len];exact hi)=(MM.wd h i:Int):=by
 have hl:i<h.length:=by rw [hh.len];exact hi
 unfold MM.wd
 have:=hh.right
 unfold rX at this
 rw [List.all_eq_true] at this
 have:=this h[i] (List.getElem_mem _)
 simp at this
 simp [hl]
 omega
def re (f:Fd) (h:List Int):Nat:=yH (wd h f.i) f.s f.w
def sO (f:Fd) (h:List Int) (n:Nat):List Int:=h.set f.i (tO (wd h f.i) f.s f.w n:Nat)
theorem t87 (n:Nat) (hn:n≤60):DCalls Try.prog 51 [I n] (I (2^n:Nat)):=by
 refine pN (rs:=[.tmp 2]) mixed Try.func51 l51 rfl rfl rfl (r:=[I (2^n:Nat)]) (nlZ rfl) ?_
 refine qc (α:=Nat) (fun i=>{sl:=[(0,.t (I n)),(3,.t (I (2^i:Nat))),(4,.t (I i))],bx:=[]}) (fun i=>i≤n) (fun i=>n - i) 0 (by simp) ?_ ?_
 ·exact ⟨⟨.same _,.same _,.same _,trivial⟩,trivial,trivial,rfl,fun _ _ _=>trivial,rfl⟩
 rintro i hi
 refine qm trivial (fun hq=>?_) (fun hq=>?_)
 ·have h1:i<n:=by simpa using hq
  refine ⟨i+1,h1,by omega,?_⟩
  have h2:(2:Nat)^(i+1)≤2^60:=Nat.pow_le_pow_right (by decide) (by omega)
  refine ⟨⟨.same _,leI ?_,leI (by rw [lS] <;> omega),trivial⟩,trivial,trivial,rfl,fun _ _ _=>trivial,rfl⟩
  have e:((2^i:Nat):Int) * 2=((2^(i+1):Nat):Int):=by rw [Nat.pow_succ];push_cast;rfl
  rw [e,rT (by omega)]
 ·have h1:i=n:=by simp at hq;omega
  subst h1
  exact ⟨rfl,trivial⟩
theorem uT {f:Fd} (h:FOk f):IntKind.wrap .i64 (IntKind.wrap .i64 (16 - ((f.a:Int).tmod 16)) - (f.w:Int))=(f.s:Int):=by
 have h1:(f.a:Int).tmod 16=((f.a % 16:Nat):Int):=by rw [Int.tmod_eq_emod_of_nonneg (by omega)];omega
 have:=h.w2
 rw [h1,lS (n:=16 - ((f.a % 16:Nat):Int)) (by omega) (by omega),lS (by omega) (by omega)]
 unfold Fd.s;omega
theorem rf {f:Fd} (h:FOk f):IntKind.wrap .i64 ((f.a:Int).tdiv 16)=(f.i:Int):=by
 have h1:(f.a:Int).tdiv 16=((f.a / 16:Nat):Int):=by rw [Int.tdiv_eq_ediv_of_nonneg (by omega)];omega
 have:=h.a
 rw [h1,rT (by omega)];rfl
theorem t84 (f:Fd) (h:FOk f):DCalls Try.prog 50 [fd f] (I (2^f.s:Nat)):=by
 refine pN (rs:=[.tmp 2]) mixed Try.func50 l50 rfl rfl rfl (r:=[I (2^f.s:Nat)]) (nlZ rfl) ?_
 refine And.intro rfl ?_
 refine qp (I f.a) (by decide) rfl ?_
 refine And.intro (by decide) ?_
 refine qp (I f.w) (by decide) rfl ?_
 have:=t87 f.s (by unfold Fd.s;omega)
 rw [← uT h] at this
 refine qk _ this ?_
 exact ⟨rfl,trivial⟩
theorem t99 (f:Fd) (h:FOk f):DCalls Try.prog 72 [fd f] (I f.s):=by
 refine pN (rs:=[.tmp 2]) mixed Try.func72 l72 rfl rfl rfl (r:=[I f.s]) (nlZ rfl) ?_
 refine And.intro rfl ?_
 refine qp (I f.a) (by decide) rfl ?_
 refine And.intro (by decide) ?_
 refine qp (I f.w) (by decide) rfl ?_
 exact ⟨congrArg (fun n=>some (I n)) (uT h),trivial⟩
theorem vO {w:Nat} (h:w≤16):2^w≤65536:=Nat.pow_le_pow_right (by decide) h
theorem t97 (f:Fd) (h:FOk f):DCalls Try.prog 66 [fd f] (I (2^f.w - 1:Nat)):=by
 refine pN (rs:=[.tmp 2]) mixed Try.func66 l66 rfl rfl rfl (r:=[I (2^f.w - 1:Nat)]) (nlZ rfl) ?_
 have hw:f.w≤16:=by have:=h.w2;omega
 have hp:=Nat.two_pow_pos f.w
 have:=vO hw
 refine And.intro rfl ?_
 refine qp (I f.w) (by decide) rfl ?_
 refine And.intro (by omega) ?_
 refine ⟨congrArg (fun n=>some (I n)) ?_,trivial⟩
 have e:(1:Int) * 2^(min (f.w:Int).toNat (IntKind.bits .i64))=((2^f.w:Nat):Int):=by
  have:min (f.w:Int).toNat (IntKind.bits .i64)=f.w:=by show min _ 64=_;simp;omega
  rw [this];push_cast;rw [Int.one_mul]
 rw [e,rT (by omega),lS] <;> omega
theorem t57 (f:Fd) (hf:FOk f) (h:List Int) (hh:HOk h):DCalls Try.prog 25 [fd f,hd h] (I (re f h)):=by
 refine pN (rs:=[.tmp 4]) mixed Try.func25 l25 rfl rfl rfl (r:=[I (re f h)]) (nlZ rfl) ?_
 have hi:=hf.i
 have hw:f.w≤16:=by have:=hf.w2;omega
 have hx:=hh.wd f.i
 have hil:f.i<h.length:=by rw [hh.len];exact hi
 refine And.intro rfl ?_
 refine And.intro (by simp [hh.len]) ?_
 refine qp (I f.a) (by decide) rfl ?_
 refine And.intro (by decide) ?_
 refine And.intro (show 0≤IntKind.wrap .i64 _∧_ by rw [rf hf];omega) ?_
 refine qp (I (wd h f.i)) (show 0+(IntKind.wrap .i64 _).toNat * 1<10 by rw [rf hf];simp;omega) (show (h.map I)[0+(IntKind.wrap .i64 _).toNat * 1]?.getD .nil=_ by
  rw [rf hf,Int.toNat_natCast,Nat.zero_add,Nat.mul_one,getD_map I h f.i .nil hil,hh.get hi]) ?_
 refine qk _ (t84 f hf) ?_
 have hp:=Nat.two_pow_pos f.s
 refine And.intro (by omega) ?_
 refine qp (I f.w) (by decide) rfl ?_
 refine qk _ (t87 f.w (by omega)) ?_
 have hq:=Nat.two_pow_pos f.w
 refine And.intro (by omega) ?_
 refine ⟨congrArg (fun n=>some (I n)) ?_,trivial⟩
 have e1:(wd h f.i:Int).tdiv ((2^f.s:Nat):Int)=((wd h f.i / 2^f.s:Nat):Int):=by
  rw [Int.tdiv_eq_ediv_of_nonneg (by omega)];simp
 have e2:wd h f.i / 2^f.s≤wd h f.i:=Nat.div_le_self _ _
 rw [e1,rT (Nat.lt_of_le_of_lt e2 (by omega)),Int.tmod_eq_emod_of_nonneg (Int.natCast_nonneg _)]
 unfold re yH
 simp
theorem wV (x s:Nat) (hs:s≤64):((x:Int)).fdiv (2^(min (s:Int).toNat (IntKind.bits .i64)))=((x / 2^s:Nat):Int):=by
 have:min (s:Int).toNat (IntKind.bits .i64)=s:=by show min _ 64=_;simp;omega
 rw [this,Int.fdiv_eq_ediv_of_nonneg _ (by exact_mod_cast Nat.zero_le _)]
 push_cast;rfl
theorem vj (x s:Nat) (hs:s≤64):(x:Int) * 2^(min (s:Int).toNat (IntKind.bits .i64))=((x * 2^s:Nat):Int):=by
 have:min (s:Int).toNat (IntKind.bits .i64)=s:=by show min _ 64=_;simp;omega
 rw [this];push_cast;rfl
theorem t78 (f:Fd) (hf:FOk f) (h:List Int) (hh:HOk h):DCalls Try.prog 45 [fd f,hd h] (I (re f h)):=by
 refine pN (rs:=[.tmp 4]) mixed Try.func45 l45 rfl rfl rfl (r:=[I (re f h)]) (nlZ rfl) ?_
 have hi:=hf.i
 have hw:f.w≤16:=by have:=hf.w2;omega
 have hsw:=hf.sw
 have hx:=hh.wd f.i
 have hil:f.i<h.length:=by rw [hh.len];exact hi
 refine And.intro rfl ?_
 refine And.intro (by simp [hh.len]) ?_
 refine qp (I f.a) (by decide) rfl ?_
 refine And.intro (by decide) ?_
 refine And.intro (show 0≤IntKind.wrap .i64 _∧_ by rw [rf hf];omega) ?_
 refine qp (I (wd h f.i)) (show 0+(IntKind.wrap .i64 _).toNat * 1<10 by rw [rf hf];simp;omega) (show (h.map I)[0+(IntKind.wrap .i64 _).toNat * 1]?.getD .nil=_ by
  rw [rf hf,Int.toNat_natCast,Nat.zero_add,Nat.mul_one,getD_map I h f.i .nil hil,hh.get hi]) ?_
 refine qk _ (t99 f hf) ?_
 refine And.intro (by omega) ?_
 refine qk _ (t97 f hf) ?_
 refine ⟨congrArg (fun n=>some (I n)) ?_,trivial⟩
 have e2:wd h f.i / 2^f.s≤wd h f.i:=Nat.div_le_self _ _
 have hp:=vO hw
 rw [wV _ _ (by omega),xM (Nat.lt_of_le_of_lt e2 (by omega)) (by omega),Nat.and_two_pow_sub_one_eq_mod]
 rfl
theorem wB {x s w n:Nat} (hn:n<2^w):clr x ((2^w - 1) * 2^s) ||| (n * 2^s)=tO x s w n:=by
 refine Nat.eq_of_testBit_eq fun j=>?_
 rw [Nat.testBit_or,u7,uN hn,Nat.testBit_mul_two_pow,Nat.testBit_mul_two_pow,Nat.testBit_two_pow_sub_one]
 by_cases h1:j<s
 ·rw [if_pos h1]
  have: ¬s≤j:=by omega
  simp [this]
 ·rw [if_neg h1]
  have h2:s≤j:=by omega
  by_cases h3:j<s+w
  ·rw [if_pos h3]
   have h4:j - s<w:=by omega
   simp [h2,h4]
  ·rw [if_neg h3]
   have h4: ¬j - s<w:=by omega
   have h5:n.testBit (j - s)=false:=Nat.testBit_lt_two_pow (Nat.lt_of_lt_of_le hn (Nat.pow_le_pow_right (by decide) (by omega)))
   simp [h4,h5]
theorem yd {x s w n:Nat} (hx:x<65536) (hsw:s+w≤16) (hn:n<2^w):tO x s w n<65536:=by
 refine Nat.lt_pow_two_of_testBit (n:=16) _ fun j hj=>?_
 rw [uN hn,if_neg (by omega),if_neg (by omega)]
 exact Nat.testBit_lt_two_pow (Nat.lt_of_lt_of_le hx (Nat.pow_le_pow_right (by decide) hj:2^16≤2^j))
theorem map_set (h:List Int) (i:Nat) (n:Int):(h.map I).set i (I n)=(h.set i n).map I:=by rw [List.map_set]
theorem t98 (f:Fd) (hf:FOk f) (h:List Int) (hh:HOk h) (n:Nat) (hn:n<2^f.w):DCalls Try.prog 65 [fd f,hd h,I n] (hd (sO f h n)):=by
 refine pN (rs:=[.cell 6 33]) mixed Try.func65 l65 rfl rfl rfl (r:=[hd (sO f h n)]) (nlZ rfl) ?_
 have hi:=hf.i
 have hw:f.w≤16:=by have:=hf.w2;omega
 have hsw:=hf.sw
 have hx:=hh.wd f.i
 have hil:f.i<h.length:=by rw [hh.len];exact hi
 have hp:=vO hw
 have hs2:2^f.s≤2^16:=Nat.pow_le_pow_right (by decide) (by omega)
 have m1:(2^f.w - 1) * 2^f.s≤65536 * 65536:=Nat.mul_le_mul (by omega) hs2
 have m2:n * 2^f.s≤65536 * 65536:=Nat.mul_le_mul (by omega) hs2
 refine And.intro rfl ?_
 refine And.intro (by simp [hh.len]) ?_
 refine qp (I f.a) (by decide) rfl ?_
 refine And.intro (by decide) ?_
 refine And.intro (show 0≤IntKind.wrap .i64 _∧_ by rw [rf hf];omega) ?_
 refine qp (I (wd h f.i)) (show 0+(IntKind.wrap .i64 _).toNat * 1<10 by rw [rf hf];simp;omega) (show (h.map I)[0+(IntKind.wrap .i64 _).toNat * 1]?.getD .nil=_ by
  rw [rf hf,Int.toNat_natCast,Nat.zero_add,Nat.mul_one,getD_map I h f.i .nil hil,hh.get hi]) ?_
 refine qk _ (t97 f hf) ?_
 refine qk _ (t99 f hf) ?_
 refine And.intro (by omega) ?_
 refine qk _ (t99 f hf) ?_
 refine And.intro (by omega) ?_
 have ew:gK .or .i64 (gK .andNot .i64 (wd h f.i) (IntKind.wrap .i64 (((2^f.w - 1:Nat):Int) * 2^(min (f.s:Int).toNat (IntKind.bits .i64))))) (IntKind.wrap .i64 ((n:Int) * 2^(min (f.s:Int).toNat (IntKind.bits .i64))))=(tO (wd h f.i) f.s f.w n:Nat):=by
  rw [vj _ _ (by omega),vj _ _ (by omega),rT (by omega),rT (by omega),vr (by omega) (by omega),yx ?_ (by omega),wB hn]
  exact Nat.xor_lt_two_pow (by omega) (Nat.lt_of_le_of_lt Nat.and_le_left (by omega))
 refine And.intro (show 0+(IntKind.wrap .i64 _).toNat * 1<10 by rw [rf hf];simp;omega) ?_
 refine And.intro ⟨by simp [hh.len],by decide⟩ ?_
 refine ⟨?_,trivial⟩
 refine congrArg some ?_
 show T.agg (aM Au 0 10 ((h.map I).set (0+(IntKind.wrap .i64 _).toNat * 1) (I (gK _ _ _ _))))=_
 rw [ew,rf hf,Int.toNat_natCast,Nat.zero_add,Nat.mul_one,map_set]
 simp [aM,hd,sO]
end Go.MM
end
section
namespace Go.MM
open Go Go.DL Go.Proofs
theorem xm (f:Fd) (h:List Int) (n:Nat):(sO f h n).length=h.length:=by simp [sO]
end Go.MM
end
section
namespace Go.MM
open Go Go.DL Go.Proofs
def r9:ByteArray:=⟨#[112,111,114,116]⟩
def sS:Fd:=⟨r9,0,16⟩
def ux:Fd:=⟨⟨#[]⟩,0,0⟩
def qX (a b:ByteArray):Bool:=a.data.toList==b.data.toList
theorem ry (a b:ByteArray):(a.toList==b.toList)=qX a b:=by unfold qX;rw [ByteArray.toList_eq,ByteArray.toList_eq]
def fds (l:List Fd):T:=.slice 3 (l.map fd)
def findF (l:List Fd) (s:ByteArray):Option Fd:=if qX s r9 then some sS else l.find? fun f=>qX f.name s
def sQ (l:List Fd) (s:ByteArray):T:=match findF l s with
 |some f=>.tup [fd f,.bool true]
 |none=>.tup [fd ux,.bool false]
theorem t94:DCalls Try.prog 69 [] (fd sS):=by
 refine pN (rs:=[.cell 0 65]) mixed Try.func69 l69 rfl rfl rfl (r:=[fd sS]) (nlZ rfl) ?_
 refine And.intro trivial ?_
 refine And.intro ⟨rfl,by decide⟩ ?_
 exact ⟨rfl,trivial⟩
theorem t83:DCalls Try.prog 49 [] (fd sS):=by
 refine pN (rs:=[.cell 0 65]) mixed Try.func49 l49 rfl rfl rfl (r:=[fd sS]) (nlZ rfl) ?_
 refine And.intro trivial ?_
 refine And.intro ⟨rfl,by decide⟩ ?_
 exact ⟨rfl,trivial⟩
theorem t96 (f:Fd) (s:ByteArray):DCalls Try.prog 71 [fd f,.cptr [.str s] 0] (.bool (qX f.name s)):=by
 refine pN (rs:=[.tmp 3]) mixed Try.func71 l71 rfl rfl rfl (r:=[.bool (qX f.name s)]) (nlZ rfl) ?_
 refine And.intro rfl ?_
 refine qp (.str f.name) (by decide) rfl ?_
 refine qp (.str s) (Nat.lt_succ_self 0) rfl ?_
 refine qn (qX f.name s) trivial (ry _ _) ?_
 exact ⟨rfl,trivial⟩
def rv (l:List Fd) (s:ByteArray):Int:=match l.findIdx? fun f=>qX f.name s with
 |some i=>i
 |none=> -1
theorem t95 (l:List Fd) (s:ByteArray) (hl:l.length<2^60):DCalls Try.prog 70 [fds l,.clos 71 [.cptr [.str s] 0]] (I (rv l s)):=by
 refine pN (rs:=[.tmp 4]) mixed Try.func70 l70 rfl rfl rfl (r:=[I (rv l s)]) (nlZ rfl) ?_
 refine qc (α:=Nat) (fun i=>{sl:=[(0,.t (fds l)),(1,.t (.clos 71 [.cptr [.str s] 0])),(7,.t (I l.length)),(8,.t (I i))],bx:=[]}) (fun i=>i≤l.length∧ ∀j (h:j<l.length),j<i→qX l[j].name s=false) (fun i=>l.length - i) 0 (by simp) ?_ ?_
 ·exact ⟨⟨.same _,.same _,leI (by simp),.same _,trivial⟩,trivial,trivial,rfl,fun _ _ _=>trivial,rfl⟩
 rintro i ⟨hi,hp⟩
 refine qm trivial (fun hq=>?_) (fun hq=>?_)
 ·have h1:i<l.length:=by simpa using hq
  refine qp (fd l[i]) (by simpa using h1) (by simp [h1]) ?_
  refine qp (fd l[i]) rfl rfl ?_
  refine qk _ (t96 l[i] s) ?_
  cases hm:qX l[i].name s with
  |true=>
   have:rv l s=i:=by
    unfold rv
    rw [List.findIdx?_eq_some_iff_getElem.2 ⟨h1,hm,fun j hj=>by simp [hp j (by omega) hj]⟩]
   exact ⟨congrArg (fun n=>some (I n)) this.symm,trivial⟩
  |false=>
   refine ⟨i+1,⟨h1,fun j hj hlt=>?_⟩,by omega,?_⟩
   ·rcases Nat.lt_or_ge j i with h4|h4
    ·exact hp j hj h4
    ·obtain rfl:j=i:=by omega
     exact hm
   ·exact ⟨⟨.same _,.same _,.same _,leI (by rw [lS] <;> omega),trivial⟩,trivial,trivial,rfl,fun _ _ _=>trivial,rfl⟩
 ·have hge:l.length≤i:=by simpa using hq
  have:rv l s= -1:=by
   unfold rv
   rw [List.findIdx?_eq_none_iff.2 fun f hf=>by
    obtain ⟨j,hj,rfl⟩:=List.mem_iff_getElem.1 hf
    exact hp j hj (by omega)]
  exact ⟨congrArg (fun n=>some (I n)) this.symm,trivial⟩
theorem uE (l:List Fd) (s:ByteArray):(rv l s= -1∧l.find? (fun f=>qX f.name s)=none)∨ ∃(i:Nat) (h:i<l.length),rv l s=i∧l.find? (fun f=>qX f.name s)=some l[i]:=by
 unfold rv
 cases hf:l.findIdx? fun f=>qX f.name s with
 |none=>exact .inl ⟨rfl,by rw [List.find?_eq_none];intro f hm;simpa using List.findIdx?_eq_none_iff.1 hf f hm⟩
 |some i=>
  obtain ⟨h1,h2,h3⟩:=List.findIdx?_eq_some_iff_getElem.1 hf
  refine .inr ⟨i,h1,rfl,?_⟩
  rw [List.find?_eq_some_iff_getElem]
  exact ⟨h2,i,h1,rfl,fun j hj=>by simpa using h3 j hj⟩
theorem t74 (l:List Fd) (s:ByteArray) (hl:l.length<2^60):DCalls Try.prog 44 [fds l,.str s] (sQ l s):=by
 unfold sQ findF
 have go: ∀(f:Fd) (b:Bool),wpC Try.prog c44 (gA [fds l,.str s]) (nn (cY Try.prog) [.cell 4 65,.tmp 5] [fd f,.bool b])→DCalls Try.prog 44 [fds l,.str s] (.tup [fd f,.bool b]):=fun f b h=>
  pN (rs:=[.cell 4 65,.tmp 5]) mixed Try.func44 l44 rfl rfl rfl (r:=[fd f,.bool b]) (nlZ rfl) h
 by_cases hp:qX s r9=true
 ·rw [if_pos hp]
  refine go _ _ ?_
  refine And.intro trivial ?_
  refine qp (.str s) (by decide) rfl ?_
  refine qk _ t94 ?_
  refine qp (.str r9) (by decide) rfl ?_
  refine qn true trivial ((ry _ _).trans hp) ?_
  refine qk _ t94 ?_
  refine And.intro ⟨rfl,by decide⟩ ?_
  exact ⟨rfl,rfl,trivial⟩
 ·rw [if_neg hp]
  have hp:qX s r9=false:=by simpa using hp
  have pre: ∀(f:Fd) (b:Bool),(∃ i,rv l s=i∧(i= -1∧f=ux∧b=false∨ ∃(k:Nat) (h:k<l.length),i=k∧f=l[k]∧b=true))→wpC Try.prog c44 (gA [fds l,.str s]) (nn (cY Try.prog) [.cell 4 65,.tmp 5] [fd f,.bool b]):=fun f b ⟨i,hi,h⟩=>by
   refine And.intro trivial ?_
   refine qp (.str s) (by decide) rfl ?_
   refine qk _ t94 ?_
   refine qp (.str r9) (by decide) rfl ?_
   refine qn false trivial ((ry _ _).trans hp) ?_
   refine ⟨I i,hi▸t95 l s hl,rfl,?_⟩
   rcases h with ⟨rfl,rfl,rfl⟩|⟨k,hk,rfl,rfl,rfl⟩
   ·refine qn true trivial (by decide) ?_
    refine And.intro trivial ?_
    refine And.intro ⟨rfl,by decide⟩ ?_
    exact ⟨rfl,rfl,trivial⟩
   ·refine qn false trivial (by simp) ?_
    refine qp (fd l[k]) (by simpa using hk) (by simp [hk]) ?_
    refine qp (fd l[k]) rfl rfl ?_
    refine And.intro ⟨rfl,by decide⟩ ?_
    exact ⟨rfl,rfl,trivial⟩
  rcases uE l s with ⟨h1,h2⟩|⟨k,hk,h1,h2⟩
  ·rw [h2]
   exact go _ _ (pre _ _ ⟨-1,h1,.inl ⟨rfl,rfl,rfl⟩⟩)
  ·rw [h2]
   exact go _ _ (pre _ _ ⟨k,h1,.inr ⟨k,hk,rfl,rfl,rfl⟩⟩)
theorem t51 (l:List Fd) (s:ByteArray) (hl:l.length<2^60):DCalls Try.prog 24 [fds l,.str s] (sQ l s):=by
 unfold sQ findF
 have go: ∀(f:Fd) (b:Bool),wpC Try.prog c24 (gA [fds l,.str s]) (nn (cY Try.prog) [.cell 4 65,.tmp 5] [fd f,.bool b])→DCalls Try.prog 24 [fds l,.str s] (.tup [fd f,.bool b]):=fun f b h=>
  pN (rs:=[.cell 4 65,.tmp 5]) mixed Try.func24 l24 rfl rfl rfl (r:=[fd f,.bool b]) (nlZ rfl) h
 by_cases hp:qX s r9=true
 ·rw [if_pos hp]
  refine go _ _ ?_
  refine qn true trivial ((ry _ _).trans hp) ?_
  refine qk _ t83 ?_
  refine And.intro ⟨rfl,by decide⟩ ?_
  exact ⟨rfl,rfl,trivial⟩
 ·rw [if_neg hp]
  have hp:qX s r9=false:=by simpa using hp
  have pre: ∀(f:Fd) (b:Bool),(∃ i,rv l s=i∧(i= -1∧f=ux∧b=false∨ ∃(k:Nat) (h:k<l.length),i=k∧f=l[k]∧b=true))→wpC Try.prog c24 (gA [fds l,.str s]) (nn (cY Try.prog) [.cell 4 65,.tmp 5] [fd f,.bool b]):=fun f b ⟨i,hi,h⟩=>by
   refine qn false trivial ((ry _ _).trans hp) ?_
   refine qc (α:=Nat) (fun i=>{sl:=[(0,.t (fds l)),(1,.t (.str s)),(4,.ptr 4 0),(6,.t (I i))],bx:=[(4,.d 3 [.str ⟨#[]⟩,I 0,I 0])]}) (fun i=>i≤l.length∧ ∀j (h:j<l.length),j<i→qX l[j].name s=false) (fun i=>l.length - i) 0 (by simp) ?_ ?_
   ·exact ⟨⟨.same _,.same _,.same _,.same _,trivial⟩,⟨.same _,trivial⟩,trivial,rfl,fun _ _ _=>trivial,rfl⟩
   rintro j ⟨hj,hpj⟩
   refine qm trivial (fun hq=>?_) (fun hq=>?_)
   ·have h1:j<l.length:=by simpa using hq
    refine qp (fd l[j]) (by simpa using h1) (by simp [h1]) ?_
    refine qp (.str l[j].name) (show 0+0<3 by decide) rfl ?_
    cases hm:qX l[j].name s with
    |true=>
     refine qn true trivial ((ry _ _).trans hm) ?_
     refine qp (fd l[j]) (by simpa using h1) (by simp [h1]) ?_
     refine qp (fd l[j]) rfl rfl ?_
     refine And.intro ⟨rfl,by decide⟩ ?_
     have e:rv l s=j:=by
      unfold rv
      rw [List.findIdx?_eq_some_iff_getElem.2 ⟨h1,hm,fun j' hj'=>by simp [hpj j' (by omega) hj']⟩]
     rcases h with ⟨rfl,rfl,rfl⟩|⟨k,hk,rfl,rfl,rfl⟩
     ·omega
     ·obtain rfl:k=j:=by omega
      exact ⟨rfl,rfl,trivial⟩
    |false=>
     refine qn false trivial ((ry _ _).trans hm) ?_
     refine ⟨j+1,⟨h1,fun j' hj' hlt=>?_⟩,by omega,?_⟩
     ·rcases Nat.lt_or_ge j' j with h4|h4
      ·exact hpj j' hj' h4
      ·obtain rfl:j'=j:=by omega
       exact hm
     ·exact ⟨⟨.same _,.same _,.same _,leI (by rw [lS] <;> omega),trivial⟩,⟨.same _,trivial⟩,trivial,rfl,fun _ _ _=>trivial,rfl⟩
   ·have hge:l.length≤j:=by simpa using hq
    have e:rv l s= -1:=by
     unfold rv
     rw [List.findIdx?_eq_none_iff.2 fun f hf=>by
      obtain ⟨j',hj',rfl⟩:=List.mem_iff_getElem.1 hf
      exact hpj j' hj' (by omega)]
    rcases h with ⟨rfl,rfl,rfl⟩|⟨k,hk,rfl,rfl,rfl⟩
    ·refine And.intro trivial ?_
     refine And.intro ⟨rfl,by decide⟩ ?_
     exact ⟨rfl,rfl,trivial⟩
    ·omega
  rcases uE l s with ⟨h1,h2⟩|⟨k,hk,h1,h2⟩
  ·rw [h2]
   exact go _ _ (pre _ _ ⟨-1,h1,.inl ⟨rfl,rfl,rfl⟩⟩)
  ·rw [h2]
   exact go _ _ (pre _ _ ⟨k,h1,.inr ⟨k,hk,rfl,rfl,rfl⟩⟩)
theorem HOk.set {f:Fd} (hf:FOk f) {h:List Int} (hh:HOk h) {n:Nat} (hn:n<2^f.w):HOk (sO f h n):=by
 refine ⟨by rw [xm,hh.len],?_⟩
 unfold sO rX
 rw [List.all_eq_true]
 intro x hx
 rcases List.mem_or_eq_of_mem_set hx with hx|rfl
 ·have:=hh.right
  unfold rX at this
  exact List.all_eq_true.1 this x hx
 ·have:=yd (hh.wd f.i) hf.sw hn
  simp
  omega
end Go.MM
end
section
namespace Go.MM
open Go Go.DL Go.Proofs
def fld (l:List Fd) (f:ByteArray):Fd:=(findF l f).getD ux
structure LOk (l:List Fd):Prop where
 len:l.length<2^60
 ok: ∀f∈l,FOk f
theorem wb {l:List Fd} {f:ByteArray} {F:Fd} (h:findF l f=some F):fld l f=F:=by unfold fld;rw [h];rfl
theorem yZ:FOk sS:=⟨by decide,by decide,by decide⟩
theorem LOk.find {l:List Fd} (h:LOk l) {s:ByteArray} {f:Fd} (hf:findF l s=some f):FOk f:=by
 unfold findF at hf
 split at hf
 ·cases hf;exact yZ
 ·exact h.ok f (List.mem_of_find?_eq_some hf)
end Go.MM
end
section
end
section
end
section
end
section
namespace Go.MM
open Go Go.DL Go.Proofs
abbrev e0:ByteArray:=⟨#[]⟩
end Go.MM
end
section
end
section
end
section
end
section
end
section
namespace Go.TY
instance memBA (a : ByteArray) (l : List ByteArray) : Decidable (a ∈ l) := @List.instDecidableMemOfLawfulBEq ByteArray instBEqOfDecidableEq inferInstance a l
structure Lin {α:Type} (lt:α→α→Bool):Prop where
 irr: ∀a,lt a a=false
 tr: ∀a b c,lt a b=true→lt b c=true→lt a c=true
 tot: ∀a b,lt a b=false→lt b a=false→a=b
section
variable {α:Type} {lt:α→α→Bool}
theorem Lin.ne (h:Lin lt) {a b:α} (hl:lt a b=true):a≠b:=fun e=>by
 subst e;rw [h.irr] at hl;cases hl
theorem Lin.asym (h:Lin lt) {a b:α} (hl:lt a b=true):lt b a=false:=by
 cases e:lt b a with
 |false=>rfl
 |true=>have:=h.tr _ _ _ hl e;rw [h.irr] at this;cases this
variable [DecidableEq α]
end
def ltS (a b:ByteArray):Bool:=Op.bytesLess a.toList b.toList
theorem sF {a b:ByteArray} (h:a.toList=b.toList):a=b:=by
 rw [ByteArray.toList_eq,ByteArray.toList_eq] at h
 exact ByteArray.ext (Array.ext' h)
theorem sM:Lin ltS where
 irr:=fun a=>by simp [ltS,Go.Proofs.bytesLess_eq]
 tr:=fun a b c h k=>by
  simp only [ltS,Go.Proofs.bytesLess_eq,decide_eq_true_eq] at *
  exact List.lt_trans h k
 tot:=fun a b h k=>by
  simp only [ltS,Go.Proofs.bytesLess_eq,decide_eq_false_iff_not,List.not_lt] at *
  exact sF (List.le_antisymm k h)
end Go.TY
end
section
namespace Go.TY
open Go Go.DL Go.MM
abbrev Fd:=Go.MM.Fd
structure RS where
 kind:Int
 var:ByteArray
 key:List ByteArray
 field:ByteArray
 n:Int
 m:Int
def rh (s:RS):List T:=[I s.kind,.str s.var,.slice 1 (s.key.map .str),.str s.field,I s.n,I s.m]
def r6 (s:RS):T:=.agg (rh s)
structure RV where
 name:ByteArray
 fam:Int
 ws:List Int
 n:Int
 m:Int
 deriving DecidableEq
def q7 (v:RV):List T:=[.str v.name,I v.fam,.slice 1 (v.ws.map I),I v.n,I v.m]
def wT (v:RV):T:=.agg (q7 v)
end Go.TY
end
section
namespace Go.ST
open Go Go.DL Go.MM Go.TY
structure Cmp {α:Type} (c:α→α→Int):Prop where
 r: ∀a b,c a b= -1∨c a b=0∨c a b=1
 s: ∀a b,c b a= - c a b
 t: ∀a b d,c a b= -1→c b d= -1→c a d= -1
 z: ∀a b,c a b=0→ ∀d,c a d=c b d
section
variable {α:Type} {c:α→α→Int}
theorem Cmp.refl (h:Cmp c) (a:α):c a a=0:=by have:=h.s a a;omega
theorem Cmp.z' (h:Cmp c) {a b:α} (e:c a b=0) (d:α):c d a=c d b:=by rw [h.s a d,h.s b d,h.z a b e]
def lex (p:Int) (q:Int):Int:=if p≠0 then p else q
theorem ya {β γ:Type} {f:α→β} {g:α→γ} {cb:β→β→Int} {cg:γ→γ→Int} (hb:Cmp cb) (hg:Cmp cg):Cmp (fun x y:α=>lex (cb (f x) (f y)) (cg (g x) (g y))) where
 r:=fun a b=>by unfold lex;have:=hb.r (f a) (f b);have:=hg.r (g a) (g b);split <;> omega
 s:=fun a b=>by
  unfold lex
  have h1:=hb.s (f a) (f b)
  have h2:=hg.s (g a) (g b)
  split <;> split <;> omega
 t:=fun a b d=>by
  unfold lex
  intro h1 h2
  have r1:=hb.r (f a) (f b)
  have r2:=hb.r (f b) (f d)
  by_cases e1:cb (f a) (f b)=0
  ·rw [hb.z _ _ e1 (f d)]
   simp only [e1,ne_eq,not_true_eq_false,if_false] at h1
   by_cases e2:cb (f b) (f d)=0
   ·simp only [e2,ne_eq,not_true_eq_false,if_false] at h2 ⊢
    exact hg.t _ _ _ h1 h2
   ·simp only [ne_eq,e2,not_false_eq_true,if_true] at h2 ⊢
    exact h2
  ·simp only [ne_eq,e1,not_false_eq_true,if_true] at h1
   by_cases e2:cb (f b) (f d)=0
   ·rw [← hb.z' e2 (f a),h1];exact if_pos (by decide)
   ·simp only [ne_eq,e2,not_false_eq_true,if_true] at h2
    rw [hb.t _ _ _ h1 h2];exact if_pos (by decide)
 z:=fun a b=>by
  unfold lex
  intro h d
  by_cases e1:cb (f a) (f b)=0
  ·simp only [e1,ne_eq,not_true_eq_false,if_false] at h
   rw [hb.z _ _ e1,hg.z _ _ h]
  ·rw [if_pos e1] at h
   exact absurd h e1
end
def rj (a b:Int):Int:=if a<b then -1 else if a>b then 1 else 0
theorem rV:Cmp rj where
 r:=fun a b=>by unfold rj;split <;> (try split) <;> omega
 s:=fun a b=>by unfold rj;split <;> split <;> (try split) <;> omega
 t:=fun a b d=>by
  unfold rj;intro h k
  have:a<b:=by by_cases h1:a<b;exact h1;rw [if_neg h1] at h;split at h <;> omega
  have:b<d:=by by_cases h1:b<d;exact h1;rw [if_neg h1] at k;split at k <;> omega
  rw [if_pos (by omega)]
 z:=fun a b h d=>by
  have:a=b:=by unfold rj at h;split at h;omega;split at h <;> omega
  rw [this]
theorem tW {a b:Int}:rj a b=0↔a=b:=by unfold rj;split;omega;split <;> omega
def rK (a b:ByteArray):Int:=if ltS a b then -1 else if ltS b a then 1 else 0
theorem tZ {a b:ByteArray}:rK a b=0↔a=b:=by
 unfold rK
 cases h1:ltS a b with
 |true=>simp only [if_true];exact ⟨fun h=>by omega,fun h=>absurd h (sM.ne h1)⟩
 |false=>
  cases h2:ltS b a with
  |true=>simp only [if_true,Bool.false_eq_true,if_false];exact ⟨fun h=>by omega,fun h=>absurd h.symm (sM.ne h2)⟩
  |false=>simp only [Bool.false_eq_true,if_false];exact ⟨fun _=>sM.tot _ _ h1 h2,fun _=>trivial⟩
theorem xO {a b:ByteArray}:rK a b= -1↔ltS a b=true:=by
 unfold rK
 cases h1:ltS a b with
 |true=>simp
 |false=>cases h2:ltS b a <;> simp
theorem wP:Cmp rK where
 r:=fun a b=>by unfold rK;split;simp;split <;> simp
 s:=fun a b=>by
  unfold rK
  cases h1:ltS a b with
  |true=>rw [sM.asym h1];rfl
  |false=>cases h2:ltS b a <;> rfl
 t:=fun a b d h k=>by rw [xO] at *;exact sM.tr _ _ _ h k
 z:=fun a b h d=>by rw [tZ.1 h]
def qJ:List Int→List Int→Int
 |[],[]=>0
 |[],_::_=> -1
 |_::_,[]=>1
 |a::l,b::m=>lex (rj a b) (qJ l m)
theorem r5: ∀{a b:List Int},qJ a b=0↔a=b
 |[],[]=>by simp [qJ]
 |[],_::_=>by simp [qJ]
 |_::_,[]=>by simp [qJ]
 |a::l,b::m=>by
  unfold qJ lex
  rw [List.cons.injEq]
  by_cases h:rj a b=0
  ·rw [if_neg (by simpa using h),r5 (a:=l)]
   simp [tW.1 h]
  ·rw [if_pos h]
   exact ⟨fun e=>absurd e h,fun e=>absurd (tW.2 e.1) h⟩
theorem wO:Cmp qJ where
 r:=fun a=>by
  induction a with
  |nil=>intro b;cases b <;> simp [qJ]
  |cons x xs ih=>
   intro b
   cases b with
   |nil=>simp [qJ]
   |cons y ys=>have:=ih ys;have:=rV.r x y;unfold qJ lex;split <;> omega
 s:=fun a=>by
  induction a with
  |nil=>intro b;cases b <;> simp [qJ]
  |cons x xs ih=>
   intro b
   cases b with
   |nil=>simp [qJ]
   |cons y ys=>have:=ih ys;have:=rV.s x y;unfold qJ lex;split <;> split <;> omega
 t:=fun a=>by
  induction a with
  |nil=>intro b d h k;cases b <;> cases d <;> simp_all [qJ]
  |cons x xs ih=>
   intro b d h k
   cases b with
   |nil=>simp [qJ] at h
   |cons y ys=>
    cases d with
    |nil=>simp [qJ] at k
    |cons z zs=>
     unfold qJ lex at h k ⊢
     by_cases e1:rj x y=0
     ·rw [if_neg (by simp [e1])] at h
      rw [rV.z _ _ e1]
      by_cases e2:rj y z=0
      ·rw [if_neg (by simp [e2])] at k ⊢;exact ih _ _ h k
      ·rw [if_pos e2] at k ⊢;exact k
     ·rw [if_pos e1] at h
      by_cases e2:rj y z=0
      ·rw [← rV.z' e2,h];exact if_pos (by decide)
      ·rw [if_pos e2] at k
       rw [rV.t _ _ _ h k];exact if_pos (by decide)
 z:=fun a b h d=>by rw [r5.1 h]
structure RE where
 var:ByteArray
 key:List Int
 n:Int
 at_:Int
 deriving DecidableEq
def qu (e:RE):List T:=[.str e.var,.slice 1 (e.key.map I),I e.n,I e.at_]
def qx (e:RE):T:=.agg (qu e)
def qB (a b:RE):Int:=lex (rK a.var b.var) (qJ a.key b.key)
theorem qz:Cmp qB:=ya (f:=RE.var) (g:=RE.key) wP wO
theorem rz {a b:RE}:qB a b=0↔a.var=b.var∧a.key=b.key:=by
 unfold qB lex
 rw [← tZ, ←r5]
 by_cases h:rK a.var b.var=0 <;> simp [h]
def qH (l:List RE):Prop:=l.Pairwise fun a b=>qB a b= -1
def rl:List RE→Bool
 |a::b::r=>decide (qB a b= -1)&&rl (b::r)
 |_=>true
theorem rG: ∀{l:List RE},rl l=true↔qH l
 |[]=>by simp [rl,qH]
 |[a]=>by simp [rl,qH]
 |a::b::r=>by
  have ih:=rG (l:=b::r)
  unfold rl
  rw [Bool.and_eq_true,ih,decide_eq_true_eq]
  refine ⟨fun h=>List.pairwise_cons.2 ⟨fun x hx=>?_,h.2⟩,fun h=>⟨(List.pairwise_cons.1 h).1 b (by simp),(List.pairwise_cons.1 h).2⟩⟩
  rcases List.mem_cons.1 hx with rfl|hx
  ·exact h.1
  ·exact qz.t _ _ _ h.1 ((List.pairwise_cons.1 h.2).1 x hx)
theorem qH.uniq {l:List RE} (h:qH l) {x y:RE} (hx:x∈l) (hy:y∈l) (e:qB x y=0):x=y:=by
 induction l with
 |nil=>simp at hx
 |cons a r ih=>
  obtain ⟨h1,h2⟩:=List.pairwise_cons.1 h
  rcases List.mem_cons.1 hx with e1|hx'
  ·rcases List.mem_cons.1 hy with e2|hy'
   ·rw [e1,e2]
   ·have:=h1 y hy';rw [← e1] at this;omega
  ·rcases List.mem_cons.1 hy with e2|hy'
   ·have:=h1 x hx';rw [← e2] at this;have:=qz.s x y;omega
   ·exact ih h2 hx' hy'
theorem qH.ext: ∀{a b:List RE},qH a→qH b→(∀ x,x∈a↔x∈b)→a=b
 |[],[],_,_,_=>rfl
 |[],b::bs,_,_,h=>by have:=(h b).2 (by simp);simp at this
 |a::l,[],_,_,h=>by have:=(h a).1 (by simp);simp at this
 |a::l,b::m,ha,hb,h=>by
  obtain ⟨a1,a2⟩:=List.pairwise_cons.1 ha
  obtain ⟨b1,b2⟩:=List.pairwise_cons.1 hb
  have e:a=b:=by
   rcases List.mem_cons.1 ((h a).1 (by simp)) with e|hm
   ·exact e
   ·rcases List.mem_cons.1 ((h b).2 (by simp)) with e|hm'
    ·exact e.symm
    ·have:=b1 a hm;have:=a1 b hm';have:=qz.s a b;omega
  subst e
  congr 1
  refine qH.ext a2 b2 fun x=>⟨fun hx=>?_,fun hx=>?_⟩
  ·rcases List.mem_cons.1 ((h x).1 (by simp [hx])) with rfl|hm
   ·have:=a1 _ hx;have:=qz.refl x;omega
   ·exact hm
  ·rcases List.mem_cons.1 ((h x).2 (by simp [hx])) with rfl|hm
   ·have:=b1 _ hx;have:=qz.refl x;omega
   ·exact hm
def qC (st:List RE) (e:RE):Nat:=(st.takeWhile fun x=>decide (qB x e= -1)).length
theorem tM (st:List RE) (e:RE):qC st e≤st.length:=List.Sublist.length_le (List.takeWhile_sublist _)
theorem ug (x:RE) (xs:List RE) (e:RE):qC (x::xs) e=if qB x e= -1 then qC xs e+1 else 0:=by
 unfold qC
 by_cases h:qB x e= -1 <;> simp [List.takeWhile,h]
theorem tN {st:List RE} (hs:qH st) {e:RE}: ∀{i:Nat} (h:i<st.length),qB st[i] e= -1↔i<qC st e:=by
 induction st with
 |nil=>intro i h;simp at h
 |cons x xs ih=>
  obtain ⟨h1,h2⟩:=List.pairwise_cons.1 hs
  intro i h
  rw [ug]
  cases i with
  |zero=>by_cases hx:qB x e= -1 <;> simp [hx]
  |succ i=>
   have hi:i<xs.length:=by simpa using h
   rw [List.getElem_cons_succ,ih h2 hi]
   by_cases hx:qB x e= -1
   ·rw [if_pos hx];omega
   ·rw [if_neg hx]
    refine ⟨fun hlt=>?_,fun hlt=>by omega⟩
    have h3:=(ih h2 hi).2 hlt
    have h4:=h1 xs[i] (by simp)
    exact absurd (qz.t _ _ _ h4 h3) hx
def qK (st:List RE) (v:ByteArray) (key:List Int):Option RE:=st.find? fun x=>decide (x.var=v)&&decide (x.key=key)
theorem rP {st:List RE} {v:ByteArray} {key:List Int} {x:RE} (h:qK st v key=some x):x∈st∧x.var=v∧x.key=key:=by
 have h1:=List.find?_some h
 simp only [Bool.and_eq_true,decide_eq_true_eq] at h1
 exact ⟨List.mem_of_find?_eq_some h,h1⟩
theorem td {st:List RE} {v:ByteArray} {key:List Int}:qK st v key=none↔ ∀x∈st, ¬(x.var=v∧x.key=key):=by
 unfold qK
 rw [List.find?_eq_none]
 simp
theorem r7 {st:List RE} (hs:qH st) (e:RE):qK st e.var e.key=match st[qC st e]? with
  |some x=>if qB x e=0 then some x else none
  |none=>none:=by
 have hle:=tM st e
 cases hf:qK st e.var e.key with
 |some y=>
  obtain ⟨h1,h2,h3⟩:=rP hf
  obtain ⟨i,hi,rfl⟩:=List.getElem_of_mem h1
  have hz:qB st[i] e=0:=rz.2 ⟨h2,h3⟩
  have hp: ¬i<qC st e:=fun h=>by have:=(tN hs hi).2 h;omega
  have hq: ¬qC st e<i:=fun h=>by
   have hpl:qC st e<st.length:=by omega
   have h4:=List.pairwise_iff_getElem.1 hs (qC st e) i hpl hi h
   have h5:qB st[qC st e] e= -1:=by rw [← qz.z' hz];exact h4
   exact absurd ((tN hs hpl).1 h5) (by omega)
  have e1:qC st e=i:=by omega
  rw [e1,ggZ hi]
  dsimp only
  rw [if_pos hz]
 |none=>
  have:=td.1 hf
  cases hg:st[qC st e]? with
  |none=>rfl
  |some x=>
   dsimp only
   rw [if_neg fun h=>this x (List.mem_of_getElem? hg) (rz.1 h)]
def qL (e:RE):List RE→List RE
 |[]=>[e]
 |x::xs=>if qB x e= -1 then x::qL e xs else if qB x e=0 then e::xs else e::x::xs
theorem xR {α:Type} (b:Bool) (k:Nat) (x:α) (xs:List α):xs.drop (if b=true then k+1 else k)=(x::xs).drop (if b=true then k+1+1 else k+1):=by cases b <;> rfl
theorem xc {st:List RE} (hs:qH st) (e:RE):qL e st=st.take (qC st e)++e::st.drop (if (qK st e.var e.key).isSome then qC st e+1 else qC st e):=by
 rw [r7 hs]
 clear hs
 induction st with
 |nil=>rfl
 |cons x xs ih=>
  rw [ug]
  unfold qL
  by_cases h:qB x e= -1
  ·rw [if_pos h,if_pos h,ih]
   simp only [List.getElem?_cons_succ,List.take_succ_cons,List.cons_append]
   exact congrArg (x:: ·) (congrArg (_++ ·) (congrArg (e:: ·) (xR _ _ _ _)))
  ·rw [if_neg h,if_neg h]
   simp only [List.getElem?_cons_zero,List.take_zero,List.nil_append]
   by_cases h0:qB x e=0 <;> simp [h0]
theorem s6 {st:List RE} (hs:qH st) {e x:RE}:x∈qL e st↔x=e∨(x∈st∧qB x e≠0):=by
 induction st with
 |nil=>simp [qL]
 |cons y ys ih=>
  obtain ⟨h1,h2⟩:=List.pairwise_cons.1 hs
  unfold qL
  by_cases h:qB y e= -1
  ·rw [if_pos h,List.mem_cons,ih h2,List.mem_cons]
   constructor
   ·rintro (rfl|h3|h3)
    ·exact Or.inr ⟨Or.inl rfl,by omega⟩
    ·exact Or.inl h3
    ·exact Or.inr ⟨Or.inr h3.1,h3.2⟩
   ·rintro (h3|⟨rfl|h3,h4⟩)
    ·exact Or.inr (Or.inl h3)
    ·exact Or.inl rfl
    ·exact Or.inr (Or.inr ⟨h3,h4⟩)
  ·have hgt: ∀z∈ys,qB z e≠0∧qB z e≠ -1:=fun z hz=>by
    have h3:=h1 z hz
    have hr:=qz.r y e
    refine ⟨fun hz0=>?_,fun hzl=>h (qz.t _ _ _ h3 hzl)⟩
    rw [qz.z' hz0] at h3;omega
   rw [if_neg h]
   by_cases h0:qB y e=0
   ·rw [if_pos h0,List.mem_cons,List.mem_cons]
    constructor
    ·rintro (h3|h3)
     ·exact Or.inl h3
     ·exact Or.inr ⟨Or.inr h3,(hgt x h3).1⟩
    ·rintro (h3|⟨rfl|h3,h4⟩)
     ·exact Or.inl h3
     ·exact absurd h0 h4
     ·exact Or.inr h3
   ·rw [if_neg h0,List.mem_cons,List.mem_cons]
    constructor
    ·rintro (h3|rfl|h3)
     ·exact Or.inl h3
     ·exact Or.inr ⟨Or.inl rfl,h0⟩
     ·exact Or.inr ⟨Or.inr h3,(hgt x h3).1⟩
    ·rintro (h3|⟨rfl|h3,h4⟩)
     ·exact Or.inl h3
     ·exact Or.inr (Or.inl rfl)
     ·exact Or.inr (Or.inr h3)
theorem qH.put {st:List RE} (hs:qH st) (e:RE):qH (qL e st):=by
 induction st with
 |nil=>simp [qL,qH]
 |cons y ys ih=>
  obtain ⟨h1,h2⟩:=List.pairwise_cons.1 hs
  unfold qL
  by_cases h:qB y e= -1
  ·rw [if_pos h]
   refine List.pairwise_cons.2 ⟨fun z hz=>?_,ih h2⟩
   rcases (s6 h2).1 hz with rfl|⟨hz,_⟩
   ·exact h
   ·exact h1 z hz
  ·rw [if_neg h]
   have hr:=qz.r y e
   have hs':=qz.s y e
   by_cases h0:qB y e=0
   ·rw [if_pos h0]
    exact List.pairwise_cons.2 ⟨fun z hz=>by rw [← qz.z _ _ h0];exact h1 z hz,h2⟩
   ·rw [if_neg h0]
    have h3:qB e y= -1:=by omega
    refine List.pairwise_cons.2 ⟨fun z hz=>?_,hs⟩
    rcases List.mem_cons.1 hz with rfl|hz
    ·exact h3
    ·exact qz.t _ _ _ h3 (h1 z hz)
def ofE (st:List RE) (v:ByteArray):List RE:=st.filter fun e=>decide (e.var=v)
def qM (st:List RE) (v:ByteArray):Nat:=(ofE st v).length
def tj (a b:List RE):Option (List RE):=if b.any fun x=>(qK a x.var x.key).isSome then none else some (b.foldl (fun acc x=>qL x acc) a)
theorem wg {b:List RE}: ∀{a:List RE},qH a→qH (b.foldl (fun acc x=>qL x acc) a):=by
 induction b with
 |nil=>exact fun h=>h
 |cons x xs ih=>exact fun h=>ih (h.put x)
theorem wo {b:List RE} (hb:b.Pairwise fun x y=>qB x y≠0): ∀{a:List RE},qH a→(∀ x∈b, ∀y∈a,qB y x≠0)→ ∀{z:RE},z∈b.foldl (fun acc x=>qL x acc) a↔z∈a∨z∈b:=by
 induction b with
 |nil=>simp
 |cons x xs ih=>
  intro a ha hd z
  obtain ⟨h1,h2⟩:=List.pairwise_cons.1 hb
  rw [List.foldl_cons,ih h2 (ha.put x) (fun w hw y hy=>?_),s6 ha,List.mem_cons]
  ·constructor
   ·rintro ((h|h)|h)
    ·exact Or.inr (Or.inl h)
    ·exact Or.inl h.1
    ·exact Or.inr (Or.inr h)
   ·rintro (h|h|h)
    ·exact Or.inl (Or.inr ⟨h,hd x (by simp) z h⟩)
    ·exact Or.inl (Or.inl h)
    ·exact Or.inr h
  ·rcases (s6 ha).1 hy with rfl|⟨hy,_⟩
   ·exact h1 w hw
   ·exact hd w (by simp [hw]) y hy
theorem uY {a b zs:List RE} (ha:qH a) (hb:qH b) (hp:zs.Perm (a++b)) (hs:zs.Pairwise fun x y=>qB y x≠ -1):tj a b=if rl zs then some zs else none:=by
 unfold tj
 by_cases hc:b.any (fun x=>(qK a x.var x.key).isSome)=true
 ·rw [if_pos hc]
  have:rl zs=false:=by
   cases ho:rl zs with
   |false=>rfl
   |true=>
    exfalso
    have hz:=rG.1 ho
    rw [List.any_eq_true] at hc
    obtain ⟨x,hx,hf⟩:=hc
    obtain ⟨y,hy⟩:=Option.isSome_iff_exists.1 hf
    obtain ⟨h1,h2,h3⟩:=rP hy
    have hn:(a++b).Nodup:=hp.nodup_iff.1 (hz.imp fun {x y} h e=>by subst e;have:=qz.refl x;omega)
    have hxz:x∈zs:=hp.mem_iff.2 (by simp [hx])
    have hyz:y∈zs:=hp.mem_iff.2 (by simp [h1])
    have e:=hz.uniq hyz hxz (rz.2 ⟨h2,h3⟩)
    subst e
    exact (List.nodup_append.1 hn).2.2 y h1 y hx rfl
  rw [this];rfl
 ·rw [if_neg hc]
  have hd: ∀x∈b, ∀y∈a,qB y x≠0:=fun x hx y hy h0=>by
   refine hc (List.any_eq_true.2 ⟨x,hx,?_⟩)
   cases hf:qK a x.var x.key with
   |some _=>rfl
   |none=>exact absurd (rz.1 h0) (td.1 hf y hy)
  have hne:(a++b).Pairwise fun x y=>qB x y≠0:=List.pairwise_append.2 ⟨ha.imp fun h=>by omega,hb.imp fun h=>by omega,fun x hx y hy=>hd y hy x hx⟩
  have hne':zs.Pairwise fun x y=>qB x y≠0:=(hp.pairwise_iff (fun {x y} h=>by have:=qz.s x y;omega)).2 hne
  have hz:qH zs:=(hs.and hne').imp fun {x y} h=>by have:=qz.s x y;have:=qz.r x y;omega
  rw [rG.2 hz,if_pos rfl]
  congr 1
  refine qH.ext (wg ha) hz fun x=>?_
  rw [wo (hb.imp fun h=>by omega) ha hd,hp.mem_iff,List.mem_append]
end Go.ST
end
section
namespace Go.ST
open Go Go.DL Go.MM Go.TY
def rL:List Int→List Int→Bool
 |[],[]=>true
 |k::ks,w::ws=>decide (0≤k)&&decide (k<2^w.toNat)&&rL ks ws
 |_,_=>false
def yF (v:RV) (e:RE) (before:List RE):Bool:=
 if v.fam=2 then decide (e.n=0)
 else if v.fam=3 then decide (v.n≤e.n)&&decide (e.n≤v.m)&& !(before.any fun x=>decide (x.var=e.var)&&decide (x.n=e.n))
 else if v.fam=4 then decide (v.n=0)||decide (e.n≤v.n)
 else true
def tL (e:RE):Bool:=decide (0≤e.n)&&decide (e.n≤65535)&&decide (0≤e.at_)&&decide (e.at_≤1073741824)
def tF (v:RV) (e:RE) (before:List RE):Bool:=tL e&&rL e.key v.ws&&yF v e before
def varOf (vars:List RV) (name:ByteArray):Option RV:=vars.find? fun v=>decide (v.name=name)
def uu (before:List RE) (e:RE):Bool:=match before.getLast? with
 |some x=>decide (qB x e≠ -1)
 |none=>false
def uy (vars:List RV) (before:List RE) (e:RE):Int:=match varOf vars e.var with
 |none=>4
 |some v=>if tF v e before=false then 1 else if uu before e=true then 10 else if 100≤qM before e.var then 2 else 0
def uz (vars:List RV):List RE→List RE→Int
 |_,[]=>0
 |before,e::es=>if uy vars before e=0 then uz vars (before++[e]) es else uy vars before e
def wN (vars:List RV) (st:List RE):Int:=uz vars [] st
theorem uF: ∀{k w:List Int},rL k w=true→k.length=w.length
 |[],[],_=>rfl
 |[],_::_,h=>by cases h
 |_::_,[],h=>by cases h
 |k::ks,w::ws,h=>by
  simp only [rL,Bool.and_eq_true] at h
  simp [uF h.2]
theorem uW {st:List RE} {e:RE} {v:ByteArray}:qM (st++[e]) v=qM st v+if e.var=v then 1 else 0:=by
 unfold qM ofE
 rw [List.filter_append,List.length_append]
 by_cases h:e.var=v <;> simp [h]
theorem vW {st:List RE} {v:ByteArray}:qM st v≤st.length:=List.length_filter_le _ _
end Go.ST
end
section
namespace Go.ST
open Go Go.DL Go.MM
open Go.TY hiding Fd
abbrev Fd:=Go.MM.Fd
def qD (l:List Fd) (s:ByteArray):Bool:=(findF l s).isSome
def wrF (l:List Fd) (h:List Int) (name:ByteArray) (n:Int):List Int:=
 if qD l name then sO (fld l name) h (min n ((2^(fld l name).w - 1:Nat):Int)).toNat else h
def rI (l:List Fd):List ByteArray→List Int→List Int→List Int
 |k::ks,v::vs,h=>rI l ks vs (wrF l h k v)
 |[],_,h=>h
 |_::_,[],h=>h
def keyOf (l:List Fd) (names:List ByteArray) (h:List Int):List Int:=names.map fun k=>(re (fld l k) h:Int)
def qT (l:List RE) (n:Int):Bool:=l.any fun e=>decide (e.n=n)
def qW (l:List RE):Nat→Int→Int
 |0,n=>n
 |k+1,n=>if qT l n then qW l k (n+1) else n
theorem tg (l:List RE): ∀(k:Nat) (n:Int),n≤qW l k n∧qW l k n≤n+k∧ ∀m,n≤m→m<qW l k n→qT l m=true
 |0,n=>⟨by simp [qW],by simp [qW],fun m h1 h2=>by simp [qW] at h2;omega⟩
 |k+1,n=>by
  unfold qW
  by_cases h:qT l n=true
  ·rw [if_pos h]
   obtain ⟨h1,h2,h3⟩:=tg l k (n+1)
   refine ⟨by omega,by omega,fun m m1 m2=>?_⟩
   by_cases e:m=n
   ·rw [e];exact h
   ·exact h3 m (by omega) m2
  ·rw [if_neg h]
   exact ⟨by omega,by omega,fun m h1 h2=>by omega⟩
theorem vz {l:List RE} {e:RE} {m:Int} (h:m≠e.n):qT (l.erase e) m=qT l m:=by
 induction l with
 |nil=>rfl
 |cons a r ih=>
  rw [List.erase_cons]
  by_cases ha:(a==e)=true
  ·rw [if_pos ha]
   have:a=e:=by simpa using ha
   subst this
   unfold qT
   rw [List.any_cons]
   have:decide (a.n=m)=false:=by simpa using fun e=>h e.symm
   rw [this];rfl
  ·rw [if_neg ha]
   unfold qT at ih ⊢
   rw [List.any_cons,List.any_cons,ih]
theorem mK: ∀(k:Nat) (l:List RE) (n:Int),l.length<k→ ∃m,n≤m∧m<n+k∧qT l m=false
 |0,l,n,h=>by omega
 |k+1,l,n,h=>by
  cases hu:qT l n with
  |false=>exact ⟨n,by omega,by omega,hu⟩
  |true=>
   unfold qT at hu
   obtain ⟨e,he,hen⟩:=List.any_eq_true.1 hu
   have hen:e.n=n:=by simpa using hen
   obtain ⟨m,h1,h2,h3⟩:=mK k (l.erase e) (n+1) (by rw [List.length_erase_of_mem he];have:=List.length_pos_of_mem he;omega)
   exact ⟨m,by omega,by omega,by rw [← h3,vz (by omega)]⟩
theorem vA (l:List RE) (n:Int):qT l (qW l l.length n)=false:=by
 have key: ∀(k:Nat) (n:Int),(∃ m,n≤m∧m<n+(k+1:Nat)∧qT l m=false)→qT l (qW l k n)=false:=by
  intro k
  induction k with
  |zero=>
   rintro n ⟨m,h1,h2,h3⟩
   have:m=n:=by omega
   rw [← this];exact h3
  |succ k ih=>
   rintro n ⟨m,h1,h2,h3⟩
   unfold qW
   cases hu:qT l n with
   |false=>simpa using hu
   |true=>
    rw [if_pos rfl]
    refine ih (n+1) ⟨m,?_,by omega,h3⟩
    rcases Int.lt_or_eq_of_le h1 with h|h
    ·omega
    ·subst h;rw [h3] at hu;cases hu
 exact key l.length n (mK _ l n (by omega))
def rH (s:RS) (e:RE) (tick:Int):RE:=
 let k:Int:=if tick>e.at_ then (tick - e.at_).tdiv s.m else 0
 if e.n+k≥s.n then ⟨e.var,e.key,s.n,tick⟩ else ⟨e.var,e.key,e.n+k,e.at_+k * s.m⟩
abbrev Res:=List Int×Bool×Option RE
def q8 (f:Option RE) (o:List RE):Bool:=f.isNone&&decide (100≤o.length)
def do1 (l:List Fd) (s:RS) (f:Option RE) (o:List RE) (h:List Int) (tick:Int) (key:List Int):Res:=
 if q8 f o then (h,false,none)
 else (wrF l h s.field (min (((f.map (·.n)).getD 0)+1) 65535),true,some ⟨s.var,key,min (((f.map (·.n)).getD 0)+1) 65535,tick⟩)
def do2 (s:RS) (f:Option RE) (o:List RE) (h:List Int) (tick:Int) (key:List Int):Res:=
 if q8 f o then (h,false,none) else (h,true,some ⟨s.var,key,(f.map (·.n)).getD 0,tick⟩)
def do3 (s:RS) (f:Option RE) (h:List Int) (tick:Int):Res:=(h,(match f with
 |some e=>decide (e.at_≥tick - s.n)
 |none=>false),none)
def rN (s:RS) (f:Option RE) (o:List RE):Int:=match f with
 |some e=>e.n
 |none=>qW o o.length s.n
def do4 (l:List Fd) (s:RS) (f:Option RE) (o:List RE) (h:List Int) (tick:Int) (key:List Int):Res:=
 if q8 f o||(f.isNone&&decide (rN s f o>s.m)) then (h,false,none)
 else (wrF l h s.field (rN s f o),true,some ⟨s.var,key,rN s f o,tick⟩)
def do5 (l:List Fd) (s:RS) (o:List RE) (h:List Int):Res:=match o.find? fun e=>decide (e.n=(re (fld l s.field) h:Int)) with
 |some e=>(rI l s.key e.key h,true,none)
 |none=>(h,false,none)
def rZ (s:RS) (f:Option RE) (key:List Int) (tick:Int):RE:=rH s (f.getD ⟨s.var,key,s.n,tick⟩) tick
def do6 (s:RS) (f:Option RE) (o:List RE) (h:List Int) (tick:Int) (key:List Int):Res:=
 if q8 f o then (h,false,none)
 else if (rZ s f key tick).n>0 then (h,true,some ⟨s.var,key,(rZ s f key tick).n - 1,(rZ s f key tick).at_⟩) else (h,false,some ⟨s.var,key,(rZ s f key tick).n,(rZ s f key tick).at_⟩)
def doR (l:List Fd) (s:RS) (f:Option RE) (o:List RE) (h:List Int) (tick:Int):Res:=
 if s.kind=0 then (h,true,none)
 else if s.kind=1 then do1 l s f o h tick (keyOf l s.key h)
 else if s.kind=2 then do2 s f o h tick (keyOf l s.key h)
 else if s.kind=3 then do3 s f h tick
 else if s.kind=4 then do4 l s f o h tick (keyOf l s.key h)
 else if s.kind=5 then do5 l s o h
 else do6 s f o h tick (keyOf l s.key h)
def ct:Option RE→List RE→List RE
 |none,st=>st
 |some e,st=>qL e st
structure Dn where
 h:List Int
 pass:Bool
 st:List RE
def tP (l:List Fd) (s:RS) (st:List RE) (h:List Int) (tick:Int):Res:=doR l s (qK st s.var (keyOf l s.key h)) (ofE st s.var) h tick
def doE (l:List Fd) (s:RS) (st:List RE) (h:List Int) (tick:Int):Dn:=⟨(tP l s st h tick).1,(tP l s st h tick).2.1,ct (tP l s st h tick).2.2 st⟩
structure uo (l:List Fd) (s:RS) (st:List RE) (h:List Int) (tick:Int):Prop where
 lok:LOk l
 no:qD l ⟨#[]⟩=false
 hok:HOk h
 inc:qH st
 len:st.length≤1000000
 num: ∀e∈st,0≤e.n∧e.n≤65535∧0≤e.at_∧e.at_≤1073741824
 t0:0≤tick
 t1:tick≤1073741824
 k0:0≤s.kind
 k1:s.kind≤6
 keys: ∀k∈s.key,qD l k=true
 klen:s.key.length≤1000
 k3:s.kind=3→0≤s.n∧s.n≤1073741824
 k4:s.kind=4→0≤s.n∧s.n≤65535∧s.n≤s.m∧s.m≤65535
 k5:s.kind=5→qD l s.field=true∧ ∀e∈st,e.var=s.var→e.key.length=s.key.length∧ ∀x∈e.key,0≤x
 k6:s.kind=6→1≤s.n∧s.n≤65535∧1≤s.m∧s.m≤1073741824
end Go.ST
end
noncomputable section
namespace Go.ST
open Go Go.DL Go.Proofs
def c35:ba:=(.seq (.region [oo 2 (.box 4 (tm 0)),oo 3 (.box 4 (tm 1)),oo 4 (.mov (Kc 0))] []) (.seq (.region [fa 5 0 2,ld 6 5,fa 7 0 3,ld 8 7,oo 9 (.call 60 [(tm 6),(tm 8)]),fa 10 1 2,ld 11 10,fa 12 1 3,ld 13 12,oo 14 (.call 61 [(tm 11),(tm 13)]),oo 15 (.buildT 1 2 [Z0] [(0,(tm 9)),(1,(tm 14))]),oo 16 (.call 59 [tm 15]),mv 4 16] []) .ret))
theorem l35:(Try.f35.body.bind (bo Try.prog 17 []))=some c35:=by kernel_rfl
def c61:ba:=(.seq (.region [oo 4 (.mov (Kc 0))] []) (.seq (.seq (.region [mv 9 0,ln 10 9,oo 11 (.mov (Kc 0))] []) (.block 0 (.loop (.seq (.region [oo 12 (.bin .lss (tm 11) (tm 10))] []) (.seq (.cond (tm 12) .skip (.exit 0)) (.seq (.block 1 (.seq (.region [mv 13 11,ix 14 1 9 11,ld 15 14,mv 5 13,mv 6 15] []) (.seq (.seq (.region [mv 16 5,mv 17 1,ln 18 17,oo 19 (.bin .geq (tm 16) (tm 18))] []) (.cond (tm 19) (.seq (.region [oo 4 (.mov (Kc 1))] []) .ret) .skip)) (.seq (.region [mv 20 1,mv 21 5,ix 22 1 20 21,ld 23 22,mv 7 23] []) (.seq (.region [mv 24 6,mv 25 7,oo 26 (.call 85 [(tm 24),(tm 25)]),mv 8 26] []) (.seq (.region [mv 27 8,oo 28 (.bin .neq (tm 27) (Kc 0))] []) (.cond (tm 28) (.seq (.region [mv 29 8,mv 4 29] []) .ret) .skip))))))) (.region [oo 30 (.bin .add (tm 11) (Kc 1)),mv 11 30] []))))))) (.seq (.seq (.region [mv 31 0,ln 32 31,mv 33 1,ln 34 33,oo 35 (.bin .lss (tm 32) (tm 34))] []) (.cond (tm 35) (.seq (.region [oo 4 (.mov (.const (.int .i64 (-1))))] []) .ret) .skip)) (.seq (.region [oo 4 (.mov (Kc 0))] []) .ret))))
theorem l61:(Try.f61.body.bind (bo Try.prog 36 []))=some c61:=by kernel_rfl
def c59:ba:=(.seq (.region [oo 2 (.mov (Kc 0))] []) (.seq (.region [oo 3 (.mov (Kc 0))] []) (.seq (.seq (.region [mv 6 0,ln 7 6,oo 8 (.mov (Kc 0))] []) (.block 0 (.loop (.seq (.region [oo 9 (.bin .lss (tm 8) (tm 7))] []) (.seq (.cond (tm 9) .skip (.exit 0)) (.seq (.block 1 (.seq (.region [ix 10 1 6 8,ld 11 10,mv 5 11] []) (.seq (.region [mv 12 5,mv 13 3,oo 14 (.bin .neq (tm 12) (tm 13))] []) (.cond (tm 14) (.seq (.region [mv 15 5,mv 2 15] []) .ret) .skip)))) (.region [oo 16 (.bin .add (tm 8) (Kc 1)),mv 8 16] []))))))) (.seq (.region [mv 17 3,mv 2 17] []) .ret))))
theorem l59:(Try.f59.body.bind (bo Try.prog 18 []))=some c59:=by kernel_rfl
def c60:ba:=(.seq (.region [oo 4 (.mov (Kc 0))] []) (.seq (.region [mv 7 0,oo 8 (.call 84 [tm 7]),mv 5 8] []) (.seq (.region [mv 9 1,oo 10 (.call 84 [tm 9]),mv 6 10] []) (.seq (.seq (.region [mv 11 5] []) (.cond (tm 11) (.seq (.seq (.region [mv 12 6] []) (.cond (tm 12) (.seq (.region [oo 4 (.mov (Kc 0))] []) .ret) .skip)) (.seq (.region [oo 4 (.mov (.const (.int .i64 (-1))))] []) .ret)) .skip)) (.seq (.seq (.region [mv 13 6] []) (.cond (tm 13) (.seq (.region [oo 4 (.mov (Kc 1))] []) .ret) .skip)) (.seq (.seq (.region [mv 14 0,mv 15 1,oo 16 (.bin .lss (tm 14) (tm 15))] []) (.cond (tm 16) (.seq (.region [oo 4 (.mov (.const (.int .i64 (-1))))] []) .ret) .skip)) (.seq (.seq (.region [mv 17 0,mv 18 1,oo 19 (.bin .gtr (tm 17) (tm 18))] []) (.cond (tm 19) (.seq (.region [oo 4 (.mov (Kc 1))] []) .ret) .skip)) (.seq (.region [oo 4 (.mov (Kc 0))] []) .ret))))))))
theorem l60:(Try.f60.body.bind (bo Try.prog 20 []))=some c60:=by kernel_rfl
def c84:ba:=(.seq (.region [oo 2 (.mov kF)] []) (.seq (.region [mv 3 0,mv 4 0,oo 5 (.bin .neq (tm 3) (tm 4)),mv 2 5] []) .ret))
theorem l84:(Try.f84.body.bind (bo Try.prog 6 []))=some c84:=by kernel_rfl
def c40:ba:=(.seq (.region [oo 3 (.box 5 (tm 0)),oo 4 (.box 4 (tm 1)),oo 6 (.mov kF)] []) (.seq (.seq (.region [fa 9 1 4,ld 10 9,ln 11 10,fa 12 2 3,ld 13 12,ln 14 13,oo 15 (.bin .neq (tm 11) (tm 14)),mv 16 15,oF 17 16 (.offA 2 (tm 4)),oF 18 16 (.load 1 false (tm 17)),oF 19 16 (.bin .lss (tm 18) (Kc 0)),oo 20 (.pick (tm 16) kT (tm 19)),mv 21 20,oF 22 21 (.offA 2 (tm 4)),oF 23 21 (.load 1 false (tm 22)),oF 24 21 (.bin .gtr (tm 23) (Kc 65535)),oo 25 (.pick (tm 21) kT (tm 24)),mv 26 25,oF 27 26 (.offA 3 (tm 4)),oF 28 26 (.load 1 false (tm 27)),oF 29 26 (.bin .lss (tm 28) (Kc 0)),oo 30 (.pick (tm 26) kT (tm 29)),mv 31 30,oF 32 31 (.offA 3 (tm 4)),oF 33 31 (.load 1 false (tm 32)),oF 34 31 (.bin .gtr (tm 33) (Kc 1073741824)),oo 35 (.pick (tm 31) kT (tm 34))] []) (.cond (tm 35) (.seq (.region [oo 6 (.mov kF)] []) .ret) .skip)) (.seq (.seq (.region [fa 36 1 4,ld 37 36,ln 38 37,oo 39 (.mov (Kc 0))] []) (.block 0 (.loop (.seq (.region [oo 40 (.bin .lss (tm 39) (tm 38))] []) (.seq (.cond (tm 40) .skip (.exit 0)) (.seq (.block 1 (.seq (.region [mv 41 39,ix 42 1 37 39,ld 43 42,mv 7 41,mv 8 43] []) (.seq (.region [mv 44 8,oo 45 (.bin .lss (tm 44) (Kc 0)),mv 46 45,mF 47 8 46,oF 48 46 (.offA 2 (tm 3)),oF 49 46 (.load 1 false (tm 48)),mF 50 7 46,oF 51 46 (.idxL 1 (tm 49) (tm 50)),oF 52 46 (.load 1 false (tm 51)),oF 53 46 (.bin .shl (Kc 1) (tm 52)),oF 54 46 (.bin .geq (tm 47) (tm 53)),oo 55 (.pick (tm 46) kT (tm 54))] []) (.cond (tm 55) (.seq (.region [oo 6 (.mov kF)] []) .ret) .skip)))) (.region [oo 56 (.bin .add (tm 39) (Kc 1)),mv 39 56] []))))))) (.seq (.seq (.region [fa 57 1 3,ld 58 57] []) (.block 2 (.seq (.region [oo 60 (.bin .eql (tm 58) (Kc 2)),mv 59 60] []) (.cond (tm 59) (.seq (.region [fa 61 2 4,ld 62 61,oo 63 (.bin .eql (tm 62) (Kc 0)),mv 6 63] []) .ret) (.seq (.region [oo 65 (.bin .eql (tm 58) (Kc 3)),mv 64 65] []) (.cond (tm 64) (.seq (.region [fa 66 2 4,ld 67 66,fa 68 3 3,ld 69 68,oo 70 (.bin .geq (tm 67) (tm 69)),mv 71 70,oT 72 71 (.offA 2 (tm 4)),oT 73 71 (.load 1 false (tm 72)),oT 74 71 (.offA 4 (tm 3)),oT 75 71 (.load 1 false (tm 74)),oT 76 71 (.bin .leq (tm 73) (tm 75)),oo 77 (.pick (tm 71) (tm 76) kF),mv 78 77,mT 79 2 78,oT 80 78 (.mkfn 63 [tm 4]),oT 81 78 (.call 62 [(tm 79),(tm 80)]),oT 82 78 (.not (tm 81)),oo 83 (.pick (tm 78) (tm 82) kF),mv 6 83] []) .ret) (.seq (.region [oo 85 (.bin .eql (tm 58) (Kc 4)),mv 84 85] []) (.cond (tm 84) (.seq (.region [fa 86 3 3,ld 87 86,oo 88 (.bin .eql (tm 87) (Kc 0)),mv 89 88,oF 90 89 (.offA 2 (tm 4)),oF 91 89 (.load 1 false (tm 90)),oF 92 89 (.offA 3 (tm 3)),oF 93 89 (.load 1 false (tm 92)),oF 94 89 (.bin .leq (tm 91) (tm 93)),oo 95 (.pick (tm 89) kT (tm 94)),mv 6 95] []) .ret) .skip)))))))) (.seq (.region [oo 6 (.mov kT)] []) .ret)))))
theorem l40:(Try.f40.body.bind (bo Try.prog 96 []))=some c40:=by kernel_rfl
def c63:ba:=(.seq (.region [oo 2 (.box 4 (tm 0)),oo 3 (.mov kF)] []) (.seq (.region [fa 4 0 2,ld 5 4,fa 6 0 1,ld 7 6,oo 8 (.bin .eql (tm 5) (tm 7)),mv 9 8,oT 10 9 (.offA 2 (tm 2)),oT 11 9 (.load 1 false (tm 10)),oT 12 9 (.offA 2 (tm 1)),oT 13 9 (.load 1 false (tm 12)),oT 14 9 (.bin .eql (tm 11) (tm 13)),oo 15 (.pick (tm 9) (tm 14) kF),mv 3 15] []) .ret))
theorem l63:(Try.f63.body.bind (bo Try.prog 16 []))=some c63:=by kernel_rfl
def c62:ba:=(.seq (.region [oo 4 (.mov kF)] []) (.seq (.region [mv 5 0,mv 6 1,oo 7 (.call 46 [(tm 5),(tm 6)]),oo 8 (.bin .geq (tm 7) (Kc 0)),mv 4 8] []) .ret))
theorem l62:(Try.f62.body.bind (bo Try.prog 9 []))=some c62:=by kernel_rfl
def c46:ba:=(.seq (.region [oo 4 (.mov (Kc 0))] []) (.seq (.seq (.region [mv 6 0,ln 7 6,oo 8 (.mov (Kc 0))] []) (.block 0 (.loop (.seq (.region [oo 9 (.bin .lss (tm 8) (tm 7))] []) (.seq (.cond (tm 9) .skip (.exit 0)) (.seq (.block 1 (.seq (.region [mv 10 8,mv 5 10] []) (.seq (.region [mv 11 1,mv 12 0,mv 13 5,ix 14 4 12 13,lA 15 4 14,oo 16 (.bO (tm 11) [tm 15])] []) (.cond (tm 16) (.seq (.region [mv 17 5,mv 4 17] []) .ret) .skip)))) (.region [oo 18 (.bin .add (tm 8) (Kc 1)),mv 8 18] []))))))) (.seq (.region [oo 4 (.mov (.const (.int .i64 (-1))))] []) .ret)))
theorem l46:(Try.f46.body.bind (bo Try.prog 19 []))=some c46:=by kernel_rfl
def c38:ba:=(.seq (.region [oo 4 (.mov (Kc 0))] []) (.seq (.seq (.region [mv 6 0,ln 7 6,oo 8 (.mov (Kc 0))] []) (.block 0 (.loop (.seq (.region [oo 9 (.bin .lss (tm 8) (tm 7))] []) (.seq (.cond (tm 9) .skip (.exit 0)) (.seq (.block 1 (.seq (.region [mv 10 8,mv 5 10] []) (.seq (.region [mv 11 1,mv 12 0,mv 13 5,ix 14 5 12 13,lA 15 5 14,oo 16 (.bO (tm 11) [tm 15])] []) (.cond (tm 16) (.seq (.region [mv 17 5,mv 4 17] []) .ret) .skip)))) (.region [oo 18 (.bin .add (tm 8) (Kc 1)),mv 8 18] []))))))) (.seq (.region [oo 4 (.mov (.const (.int .i64 (-1))))] []) .ret)))
theorem l38:(Try.f38.body.bind (bo Try.prog 19 []))=some c38:=by kernel_rfl
def c15:ba:=(.seq (.region [oo 4 (.mov (Kc 0))] []) (.seq (.region [oo 9 (.mkmap false [.str]),mv 5 9] []) (.seq (.seq (.region [mv 10 1,ln 11 10,oo 12 (.mov (Kc 0))] []) (.block 0 (.loop (.seq (.region [oo 13 (.bin .lss (tm 12) (tm 11))] []) (.seq (.cond (tm 13) .skip (.exit 0)) (.seq (.block 1 (.seq (.region [mv 14 12,ix 15 4 10 12,lA 16 4 15,⟨some 7,.alloc [S0,.nil,Z0,Z0],none,[]⟩,mv 6 14,o0 (.store 4 (tm 7) (tm 16))] []) (.seq (.region [mv 17 0,oo 18 (.mkfn 39 [tm 7]),oo 19 (.call 38 [(tm 17),(tm 18)]),mv 8 19] []) (.seq (.block 2 (.seq (.region [mv 21 8,oo 22 (.bin .lss (tm 21) (Kc 0)),mv 20 22] []) (.cond (tm 20) (.seq (.region [oo 4 (.mov (Kc 4))] []) .ret) (.seq (.region [mv 24 0,mv 25 8,ix 26 5 24 25,lA 27 5 26,lA 28 4 7,mv 29 1,mv 30 6,oo 31 (.slice 4 (tm 29) none (some (tm 30))),oo 32 (.call 40 [(tm 27),(tm 28),(tm 31)]),oo 33 (.not (tm 32)),mv 23 33] []) (.cond (tm 23) (.seq (.region [oo 4 (.mov (Kc 1))] []) .ret) (.seq (.region [mv 35 6,oo 36 (.bin .gtr (tm 35) (Kc 0)),mv 37 36,mT 38 1 37,mT 39 6 37,oT 40 37 (.bin .sub (tm 39) (Kc 1)),oT 41 37 (.idxL 4 (tm 38) (tm 40)),oT 42 37 (.load 4 true (tm 41)),oT 43 37 (.load 4 true (tm 7)),oT 44 37 (.call 35 [(tm 42),(tm 43)]),oT 45 37 (.bin .geq (tm 44) (Kc 0)),oo 46 (.pick (tm 37) (tm 45) kF),mv 34 46] []) (.cond (tm 34) (.seq (.region [oo 4 (.mov (Kc 10))] []) .ret) (.seq (.region [mv 48 5,fa 49 0 7,ld 50 49,oo 51 (.mlook false [.str] Z0 false (tm 48) (tm 50)),oo 52 (.bin .geq (tm 51) (Kc 100)),mv 47 52] []) (.cond (tm 47) (.seq (.region [oo 4 (.mov (Kc 2))] []) .ret) .skip))))))))) (.region [mv 53 5,fa 54 0 7,ld 55 54,oo 56 (.mlook false [.str] Z0 false (tm 53) (tm 55)),oo 57 (.bin .add (tm 56) (Kc 1)),o0 (.bp false [.str] (tm 53) (tm 55) (tm 57))] []))))) (.region [oo 58 (.bin .add (tm 12) (Kc 1)),mv 12 58] []))))))) (.seq (.region [oo 4 (.mov (Kc 0))] []) .ret))))
theorem l15:(Try.f15.body.bind (bo Try.prog 59 []))=some c15:=by kernel_rfl
def c39:ba:=(.seq (.region [oo 2 (.box 5 (tm 0)),oo 3 (.mov kF)] []) (.seq (.region [fa 4 0 2,ld 5 4,fa 6 0 1,ld 7 6,oo 8 (.bin .eql (tm 5) (tm 7)),mv 3 8] []) .ret))
theorem l39:(Try.f39.body.bind (bo Try.prog 9 []))=some c39:=by kernel_rfl
def c48:ba:=(.seq (.region [oo 4 (.box 4 (tm 1)),oo 6 (.mov (Kc 0)),oo 7 (.mov kF)] []) (.seq (.region [mv 8 0,lA 9 4 4,mv 10 2,oo 11 (.call 73 [(tm 8),(tm 9),(tm 10)]),oo 12 (.ext (tm 11) 0),oo 13 (.ext (tm 11) 1),mv 6 12,mv 7 13] []) .ret))
theorem l48:(Try.f48.body.bind (bo Try.prog 14 []))=some c48:=by kernel_rfl
def c73:ba:=(.seq (.region [oo 4 (.box 4 (tm 1)),oo 6 (.mov (Kc 0)),oo 7 (.mov kF)] []) (.seq (.region [mv 12 0,ln 13 12,mv 8 13] []) (.seq (.region [mv 14 8,oo 9 (.mov (Kc 0)),mv 10 14] []) (.seq (.block 0 (.loop (.seq (.seq (.region [mv 15 9,mv 16 10,oo 17 (.bin .lss (tm 15) (tm 16))] []) (.cond (tm 17) .skip (.exit 0))) (.block 1 (.seq (.region [mv 18 9,mv 19 10,oo 20 (.bin .add (tm 18) (tm 19)),oo 21 (.conv .u64 (tm 20)),oo 22 (.bin .shr (tm 21) (.const (.int .u64 1))),oo 23 (.conv .i64 (tm 22)),mv 11 23] []) (.seq (.region [mv 24 2,mv 25 0,mv 26 11,ix 27 4 25 26,lA 28 4 27,lA 29 4 4,oo 30 (.bO (tm 24) [(tm 28),(tm 29)]),oo 31 (.bin .lss (tm 30) (Kc 0))] []) (.cond (tm 31) (.region [mv 32 11,oo 33 (.bin .add (tm 32) (Kc 1)),mv 9 33] []) (.region [mv 34 11,mv 10 34] [])))))))) (.seq (.region [mv 35 9,mv 36 9,mv 37 8,oo 38 (.bin .lss (tm 36) (tm 37)),mv 39 38,mT 40 2 39,mT 41 0 39,mT 42 9 39,oT 43 39 (.idxL 4 (tm 41) (tm 42)),oT 44 39 (.load 4 true (tm 43)),oT 45 39 (.load 4 true (tm 4)),oT 46 39 (.bO (tm 40) [(tm 44),(tm 45)]),oT 47 39 (.bin .eql (tm 46) (Kc 0)),oo 48 (.pick (tm 39) (tm 47) kF),mv 6 35,mv 7 48] []) .ret)))))
theorem l73:(Try.f73.body.bind (bo Try.prog 49 []))=some c73:=by kernel_rfl
def c23:ba:=(.seq (.region [⟨some 6,.alloc [S0,.nil,Z0,Z0],none,[]⟩,oo 7 (.mov kF)] []) (.seq (.region [mv 11 0,mv 12 1,mv 13 2,⟨some 14,.build [S0,.nil,Z0,Z0] [(0,1,(tm 12)),(1,1,(tm 13))],none,[]⟩,oo 15 (.call 48 [(tm 11),(tm 14),(.const (.clos 35 []))]),mv 10 15,oo 16 (.ext (tm 10) 0),oo 17 (.ext (tm 10) 1),mv 8 16,mv 9 17] []) (.seq (.seq (.region [mv 18 9,oo 19 (.not (tm 18))] []) (.cond (tm 19) (.seq (.region [⟨some 20,.build [S0,.nil,Z0,Z0] [],none,[]⟩,o0 (.store 4 (tm 6) (tm 20)),oo 7 (.mov kF)] []) .ret) .skip)) (.seq (.region [mv 21 0,mv 22 8,ix 23 4 21 22,lA 24 4 23,o0 (.store 4 (tm 6) (tm 24)),oo 7 (.mov kT)] []) .ret))))
theorem l23:(Try.f23.body.bind (bo Try.prog 25 []))=some c23:=by kernel_rfl
def c86:ba:=(.seq (.region [oo 2 (.mov (.const .nil))] []) (.seq (.seq (.region [mv 3 0,oo 4 (.isnil 1 false (tm 3))] []) (.cond (tm 4) (.seq (.region [oo 2 (.mov (.const .nil))] []) .ret) .skip)) (.seq (.region [⟨some 5,.buildF 4 0 [S0,.nil,Z0,Z0] [],none,[]⟩,mv 6 0,oo 7 (.appV 4 56 (tm 5) (tm 6)),mv 2 7] []) .ret)))
theorem l86:(Try.f86.body.bind (bo Try.prog 8 [8000005,9000005]))=some c86:=by kernel_rfl
def c67:ba:=(.seq (.region [oo 3 (.box 1 (tm 1)),oo 4 (.mov (.const .nil))] []) (.seq (.region [mv 5 0,oo 6 (.inl 86 [tm 5]),oo 7 (.mkfn 89 [tm 3]),oo 8 (.inl 88 [(tm 6),(tm 7)]),mv 4 8] []) .ret))
theorem l67:(Try.f67.body.bind (bo Try.prog 9 [86,88]))=some c67:=by kernel_rfl
def c89:ba:=(.seq (.region [oo 2 (.box 4 (tm 0)),oo 3 (.mov kF)] []) (.seq (.region [ld 4 1,lA 5 4 2,oo 6 (.bO (tm 4) [tm 5]),oo 7 (.not (tm 6)),mv 3 7] []) .ret))
theorem l89:(Try.f89.body.bind (bo Try.prog 8 []))=some c89:=by kernel_rfl
def c88:ba:=(.seq (.region [oo 4 (.mov (.const .nil))] []) (.seq (.region [mv 8 0,mv 9 1,oo 10 (.call 46 [(tm 8),(tm 9)]),mv 5 10] []) (.seq (.seq (.region [mv 11 5,oo 12 (.bin .eql (tm 11) (.const (.int .i64 (-1))))] []) (.cond (tm 12) (.seq (.region [mv 13 0,mv 4 13] []) .ret) .skip)) (.seq (.seq (.region [mv 14 5,oo 15 (.bin .add (tm 14) (Kc 1)),mv 6 15] []) (.block 0 (.loop (.seq (.seq (.region [mv 16 6,mv 17 0,ln 18 17,oo 19 (.bin .lss (tm 16) (tm 18))] []) (.cond (tm 19) .skip (.exit 0))) (.seq (.block 1 (.seq (.region [mv 22 0,mv 23 6,ix 24 4 22 23,lA 25 4 24,⟨some 7,.alloc [S0,.nil,Z0,Z0],none,[]⟩,o0 (.store 4 (tm 7) (tm 25))] []) (.seq (.region [mv 26 1,lA 27 4 7,oo 28 (.bO (tm 26) [tm 27]),oo 29 (.not (tm 28))] []) (.cond (tm 29) (.seq (.region [mv 30 0,mv 31 5,lA 32 4 7,ix 33 4 30 31,o0 (.store 4 (tm 33) (tm 32))] []) (.region [mv 34 5,oo 35 (.bin .add (tm 34) (Kc 1)),mv 5 35] [])) .skip)))) (.region [mv 20 6,oo 21 (.bin .add (tm 20) (Kc 1)),mv 6 21] [])))))) (.seq (.region [mv 36 0,mv 37 5,oo 38 (.slice 4 (tm 36) (some (tm 37)) none),⟨none,.clr 4 [S0,.nil,Z0,Z0] (tm 38),none,[]⟩] []) (.seq (.region [mv 39 0,mv 40 5,oo 41 (.slice 4 (tm 39) none (some (tm 40))),mv 4 41] []) .ret))))))
theorem l88:(Try.f88.body.bind (bo Try.prog 42 []))=some c88:=by kernel_rfl
def c68:ba:=(.seq (.region [oo 2 (.box 4 (tm 0)),oo 3 (.mov kF)] []) (.seq (.region [fa 4 0 2,ld 5 4,ld 6 1,oo 7 (.bin .eql (tm 5) (tm 6)),mv 3 7] []) .ret))
theorem l68:(Try.f68.body.bind (bo Try.prog 8 []))=some c68:=by kernel_rfl
end Go.ST
end
section
namespace Go.ST
open Go Go.DL Go.Proofs
noncomputable def c10:ba:=(.seq (.region [oo 4 (.mov (Kc 0))] []) (.seq (.seq (.region [oo 5 (.mov (Kc 0))] []) (.block 0 (.loop (.seq (.seq (.region [mv 6 5,mv 7 0,ln 8 7,oo 9 (.bin .lss (tm 6) (tm 8)),mv 10 9,mT 11 5 10,mT 12 1 10,oT 13 10 (.len (tm 12)),oT 14 10 (.bin .lss (tm 11) (tm 13)),oo 15 (.pick (tm 10) (tm 14) kF)] []) (.cond (tm 15) .skip (.exit 0))) (.seq (.block 1 (.seq (.seq (.region [mv 18 0,mv 19 5,ix 20 1 18 19,ld 21 20,mv 22 1,mv 23 5,ix 24 1 22 23,ld 25 24,oo 26 (.bin .lss (tm 21) (tm 25))] []) (.cond (tm 26) (.seq (.region [oo 4 (.mov (.const (.int .i64 (-1))))] []) .ret) .skip)) (.seq (.region [mv 27 0,mv 28 5,ix 29 1 27 28,ld 30 29,mv 31 1,mv 32 5,ix 33 1 31 32,ld 34 33,oo 35 (.bin .gtr (tm 30) (tm 34))] []) (.cond (tm 35) (.seq (.region [oo 4 (.mov (Kc 1))] []) .ret) .skip)))) (.region [mv 16 5,oo 17 (.bin .add (tm 16) (Kc 1)),mv 5 17] [])))))) (.seq (.seq (.region [mv 36 0,ln 37 36,mv 38 1,ln 39 38,oo 40 (.bin .lss (tm 37) (tm 39))] []) (.cond (tm 40) (.seq (.region [oo 4 (.mov (.const (.int .i64 (-1))))] []) .ret) .skip)) (.seq (.seq (.region [mv 41 0,ln 42 41,mv 43 1,ln 44 43,oo 45 (.bin .gtr (tm 42) (tm 44))] []) (.cond (tm 45) (.seq (.region [oo 4 (.mov (Kc 1))] []) .ret) .skip)) (.seq (.region [oo 4 (.mov (Kc 0))] []) .ret)))))
theorem l10:(Try.f10.body.bind (bo Try.prog 46 []))=some c10:=by kernel_rfl
end Go.ST
end
section
namespace Go.ST
open Go Go.DL Go.MM Go.Proofs
open Go.TY hiding Fd
theorem s7 (s:ByteArray):DCalls Try.prog 84 [.str s] (.bool false):=by
 refine pN (rs:=[.tmp 2]) mixed Try.func84 l84 rfl rfl rfl (r:=[.bool false]) (nlZ rfl) ?_
 have h:(!(s.toList==s.toList))=false:=by simp
 repeat' ((conv=>whnf);first|exact trivial|refine nb_ _ h ?_|refine nT_ ?_|refine aE1 ?_|refine aE0 ?_|refine aN1 ?_|refine aN0 ?_|refine aD1 ?_|refine aD0 ?_|refine nE_ (fun hq=>?_) (fun hq=>?_)|refine nN_ (fun hq=>?_) (fun hq=>?_)|refine nD_ (fun hq=>?_) (fun hq=>?_)|refine rb1 ?_|refine rb0 ?_|refine rbx ?_|refine rix ?_|refine aS ?_|fail)
theorem xy (x:Int):DCalls Try.prog 95 [I x] (.bool false):=by
 refine pN (rs:=[.tmp 2]) mixed Try.func95 l95 rfl rfl rfl (r:=[.bool _]) (nlZ rfl) ?_
 repeat' ((conv=>whnf);first|exact trivial|refine nT_ ?_|refine aE1 ?_|refine aE0 ?_|refine aN1 ?_|refine aN0 ?_|refine aD1 ?_|refine aD0 ?_|refine nE_ (fun hq=>?_) (fun hq=>?_)|refine nN_ (fun hq=>?_) (fun hq=>?_)|refine nD_ (fun hq=>?_) (fun hq=>?_)|refine rb1 ?_|refine rb0 ?_|refine rbx ?_|refine rix ?_|refine aS ?_|fail)
theorem zi (x y:Int):DCalls Try.prog 85 [I x,I y] (I (rj x y)):=by
 refine pN (rs:=[.tmp 4]) mixed Try.func85 l85 rfl rfl rfl (r:=[I _]) (nlZ rfl) ?_
 unfold rj
 repeat' ((conv=>whnf);first|exact trivial|refine qk _ (xy _) ?_|refine nT_ ?_|refine aE1 ?_|refine aE0 ?_|refine aN1 ?_|refine aN0 ?_|refine aD1 ?_|refine aD0 ?_|refine nE_ (fun hq=>?_) (fun hq=>?_)|refine nN_ (fun hq=>?_) (fun hq=>?_)|refine nD_ (fun hq=>?_) (fun hq=>?_)|refine rb1 ?_|refine rb0 ?_|refine rbx ?_|refine rix ?_|refine aS ?_|fail)
 all_goals (refine ri ?_ trivial;split <;> (try split) <;> first|rfl|omega)
theorem gtS (a b:ByteArray):(!(Op.bytesLess a.toList b.toList||a.toList==b.toList))=ltS b a:=by
 cases h1:ltS a b with
 |true=>
  have h2:=sM.asym h1
  unfold ltS at h1
  rw [h1,h2];rfl
 |false=>
  have h1':=h1
  unfold ltS at h1'
  rw [h1',Bool.false_or]
  cases h2:ltS b a with
  |true=>
   have: ¬a.toList=b.toList:=fun e=>sM.ne h2 (sF e).symm
   simpa using this
  |false=>
   have:a=b:=sM.tot _ _ h1 h2
   simp [this]
theorem zk (x y:ByteArray):DCalls Try.prog 60 [.str x,.str y] (I (rK x y)):=by
 refine pN (rs:=[.tmp 4]) mixed Try.func60 l60 rfl rfl rfl (r:=[I _]) (nlZ rfl) ?_
 unfold rK
 have hg:=gtS x y
 have hl:Op.bytesLess x.toList y.toList=ltS x y:=rfl
 cases h1:ltS x y with
 |true=>
  rw [h1] at hl
  repeat' ((conv=>whnf);first|exact trivial|refine qk _ (s7 _) ?_|refine nb_ _ hl ?_|refine nT_ ?_|refine aE1 ?_|refine aE0 ?_|refine aN1 ?_|refine aN0 ?_|refine aD1 ?_|refine aD0 ?_|refine nE_ (fun hq=>?_) (fun hq=>?_)|refine nN_ (fun hq=>?_) (fun hq=>?_)|refine nD_ (fun hq=>?_) (fun hq=>?_)|refine rb1 ?_|refine rb0 ?_|refine rbx ?_|refine rix ?_|refine aS ?_|fail)
 |false=>
  rw [h1] at hl
  cases h2:ltS y x with
  |true=>
   rw [h2] at hg
   repeat' ((conv=>whnf);first|exact trivial|refine qk _ (s7 _) ?_|refine nb_ _ hl ?_|refine nb_ _ hg ?_|refine nT_ ?_|refine aE1 ?_|refine aE0 ?_|refine aN1 ?_|refine aN0 ?_|refine aD1 ?_|refine aD0 ?_|refine nE_ (fun hq=>?_) (fun hq=>?_)|refine nN_ (fun hq=>?_) (fun hq=>?_)|refine nD_ (fun hq=>?_) (fun hq=>?_)|refine rb1 ?_|refine rb0 ?_|refine rbx ?_|refine rix ?_|refine aS ?_|fail)
  |false=>
   rw [h2] at hg
   repeat' ((conv=>whnf);first|exact trivial|refine qk _ (s7 _) ?_|refine nb_ _ hl ?_|refine nb_ _ hg ?_|refine nT_ ?_|refine aE1 ?_|refine aE0 ?_|refine aN1 ?_|refine aN0 ?_|refine aD1 ?_|refine aD0 ?_|refine nE_ (fun hq=>?_) (fun hq=>?_)|refine nN_ (fun hq=>?_) (fun hq=>?_)|refine nD_ (fun hq=>?_) (fun hq=>?_)|refine rb1 ?_|refine rb0 ?_|refine rbx ?_|refine rix ?_|refine aS ?_|fail)
theorem zH (x y:Int):DCalls Try.prog 59 [.slice 1 [I x,I y]] (I (lex x y)):=by
 refine pN (rs:=[.tmp 2]) mixed Try.func59 l59 rfl rfl rfl (r:=[I _]) (nlZ rfl) ?_
 unfold lex
 repeat' ((conv=>whnf);first|exact trivial|refine nT_ ?_|refine aE1 ?_|refine aE0 ?_|refine aN1 ?_|refine aN0 ?_|refine aD1 ?_|refine aD0 ?_|refine nE_ (fun hq=>?_) (fun hq=>?_)|refine nN_ (fun hq=>?_) (fun hq=>?_)|refine nD_ (fun hq=>?_) (fun hq=>?_)|refine rb1 ?_|refine rb0 ?_|refine rbx ?_|refine rix ?_|refine aS ?_|fail)
 refine pX 0 (α:=Nat) (β:=Unit) (fun i=>{sl:=[(3,.t (I 0)),(6,.t (.slice 1 [I x,I y])),(7,.t (I 2)),(8,.t (I i))],bx:=[]})
  (fun i=>i≤2∧(1≤i→x=0)∧(2≤i→y=0)) (fun i=>2 - i) (fun _=>{sl:=[(3,.t (I 0))],bx:=[]}) (fun _=>x=0∧y=0) 0 ⟨by omega,by omega,by omega⟩ ?_ ?_ ?_
 ·repeat' (first|exact trivial|exact LeV.same _|exact LeB.same _|exact rfl|exact fun _ _ _=>trivial|exact lI|exact LeV.nil _ _ _|exact lB|refine qq ?_|refine qo ?_|refine And.intro ?_ ?_)
 ·rintro i ⟨hi,hx,hy⟩
  match i,hi with
  |0,_=>
   by_cases h:x=0
   ·repeat' ((conv=>whnf);first|exact trivial|refine pz h ?_|refine nT_ ?_|refine aE1 ?_|refine aE0 ?_|refine aN1 ?_|refine aN0 ?_|refine aD1 ?_|refine aD0 ?_|refine nE_ (fun hq=>?_) (fun hq=>?_)|refine nN_ (fun hq=>?_) (fun hq=>?_)|refine nD_ (fun hq=>?_) (fun hq=>?_)|refine rb1 ?_|refine rb0 ?_|refine rbx ?_|refine rix ?_|refine aS ?_|fail)
    exact ⟨1,⟨by omega,fun _=>h,by omega⟩,by omega,by repeat' (first|exact trivial|exact LeV.same _|exact LeB.same _|exact rfl|exact fun _ _ _=>trivial|exact lI|exact LeV.nil _ _ _|exact lB|refine qq ?_|refine qo ?_|refine And.intro ?_ ?_)⟩
   ·rw [if_pos h]
    repeat' ((conv=>whnf);first|exact trivial|refine ql h ?_|refine nT_ ?_|refine aE1 ?_|refine aE0 ?_|refine aN1 ?_|refine aN0 ?_|refine aD1 ?_|refine aD0 ?_|refine nE_ (fun hq=>?_) (fun hq=>?_)|refine nN_ (fun hq=>?_) (fun hq=>?_)|refine nD_ (fun hq=>?_) (fun hq=>?_)|refine rb1 ?_|refine rb0 ?_|refine rbx ?_|refine rix ?_|refine aS ?_|fail)
  |1,_=>
   rw [if_neg (by simp [hx (by omega)])]
   by_cases h:y=0
   ·repeat' ((conv=>whnf);first|exact trivial|refine pz h ?_|refine nT_ ?_|refine aE1 ?_|refine aE0 ?_|refine aN1 ?_|refine aN0 ?_|refine aD1 ?_|refine aD0 ?_|refine nE_ (fun hq=>?_) (fun hq=>?_)|refine nN_ (fun hq=>?_) (fun hq=>?_)|refine nD_ (fun hq=>?_) (fun hq=>?_)|refine rb1 ?_|refine rb0 ?_|refine rbx ?_|refine rix ?_|refine aS ?_|fail)
    exact ⟨2,⟨by omega,fun _=>hx (by omega),fun _=>h⟩,by omega,by repeat' (first|exact trivial|exact LeV.same _|exact LeB.same _|exact rfl|exact fun _ _ _=>trivial|exact lI|exact LeV.nil _ _ _|exact lB|refine qq ?_|refine qo ?_|refine And.intro ?_ ?_)⟩
   ·repeat' ((conv=>whnf);first|exact trivial|refine ql h ?_|refine nT_ ?_|refine aE1 ?_|refine aE0 ?_|refine aN1 ?_|refine aN0 ?_|refine aD1 ?_|refine aD0 ?_|refine nE_ (fun hq=>?_) (fun hq=>?_)|refine nN_ (fun hq=>?_) (fun hq=>?_)|refine nD_ (fun hq=>?_) (fun hq=>?_)|refine rb1 ?_|refine rb0 ?_|refine rbx ?_|refine rix ?_|refine aS ?_|fail)
  |2,_=>
   repeat' ((conv=>whnf);first|exact trivial|refine nT_ ?_|refine aE1 ?_|refine aE0 ?_|refine aN1 ?_|refine aN0 ?_|refine aD1 ?_|refine aD0 ?_|refine nE_ (fun hq=>?_) (fun hq=>?_)|refine nN_ (fun hq=>?_) (fun hq=>?_)|refine nD_ (fun hq=>?_) (fun hq=>?_)|refine rb1 ?_|refine rb0 ?_|refine rbx ?_|refine rix ?_|refine aS ?_|fail)
   exact ⟨(),⟨hx (by omega),hy (by omega)⟩,by repeat' (first|exact trivial|exact LeV.same _|exact LeB.same _|exact rfl|exact fun _ _ _=>trivial|exact lI|exact LeV.nil _ _ _|exact lB|refine qq ?_|refine qo ?_|refine And.intro ?_ ?_)⟩
  |i+3,h=>omega
 rintro - ⟨hx,hy⟩
 rw [hx,hy]
 repeat' ((conv=>whnf);first|exact trivial|refine nT_ ?_|refine aE1 ?_|refine aE0 ?_|refine aN1 ?_|refine aN0 ?_|refine aD1 ?_|refine aD0 ?_|refine nE_ (fun hq=>?_) (fun hq=>?_)|refine nN_ (fun hq=>?_) (fun hq=>?_)|refine nD_ (fun hq=>?_) (fun hq=>?_)|refine rb1 ?_|refine rb0 ?_|refine rbx ?_|refine rix ?_|refine aS ?_|fail)
theorem tX {a b:List Int} {i:Nat} (ha:i<a.length) (hb:i<b.length):qJ (a.drop i) (b.drop i)=lex (rj a[i] b[i]) (qJ (a.drop (i+1)) (b.drop (i+1))):=by
 rw [List.drop_eq_getElem_cons ha,List.drop_eq_getElem_cons hb];rfl
theorem sY {a b:List Int} {i:Nat} (ha:a.length≤i) (hb:i≤b.length):qJ (a.drop i) (b.drop i)=if i<b.length then -1 else 0:=by
 rw [List.drop_eq_nil_of_le ha]
 by_cases h:i<b.length
 ·rw [List.drop_eq_getElem_cons h,if_pos h];rfl
 ·rw [List.drop_eq_nil_of_le (by omega),if_neg h];rfl
theorem tY {a b:List Int} {i:Nat} (ha:i<a.length) (hb:b.length≤i):qJ (a.drop i) (b.drop i)=1:=by
 rw [List.drop_eq_nil_of_le hb,List.drop_eq_getElem_cons ha];rfl
theorem zj (a b:List Int) (hl:a.length<2^60) (hm:b.length<2^60):DCalls Try.prog 61 [.slice 1 (a.map I),.slice 1 (b.map I)] (I (qJ a b)):=by
 refine pN (rs:=[.tmp 4]) mixed Try.func61 l61 rfl rfl rfl (r:=[I _]) (nlZ rfl) ?_
 have ha:((a.map I).length:Int)=a.length:=by rw [List.length_map]
 have hb:((b.map I).length:Int)=b.length:=by rw [List.length_map]
 repeat' ((conv=>whnf);first|exact trivial|refine nT_ ?_|refine aE1 ?_|refine aE0 ?_|refine aN1 ?_|refine aN0 ?_|refine aD1 ?_|refine aD0 ?_|refine nE_ (fun hq=>?_) (fun hq=>?_)|refine nN_ (fun hq=>?_) (fun hq=>?_)|refine nD_ (fun hq=>?_) (fun hq=>?_)|refine rb1 ?_|refine rb0 ?_|refine rbx ?_|refine rix ?_|refine aS ?_|fail)
 refine pX 0 (α:=Nat) (β:=Unit) (fun i=>{sl:=[(0,.t (.slice 1 (a.map I))),(1,.t (.slice 1 (b.map I))),(9,.t (.slice 1 (a.map I))),(10,.t (I (a.map I).length)),(11,.t (I i))],bx:=[]})
  (fun i=>i≤a.length∧i≤b.length∧qJ (a.drop i) (b.drop i)=qJ a b) (fun i=>a.length - i) (fun _=>{sl:=[(0,.t (.slice 1 (a.map I))),(1,.t (.slice 1 (b.map I)))],bx:=[]}) (fun _=>a.length≤b.length∧qJ (a.drop a.length) (b.drop a.length)=qJ a b) 0 ⟨by omega,by omega,rfl⟩ ?_ ?_ ?_
 ·repeat' (first|exact trivial|exact LeV.same _|exact LeB.same _|exact rfl|exact fun _ _ _=>trivial|exact lI|exact LeV.nil _ _ _|exact lB|refine qq ?_|refine qo ?_|refine And.intro ?_ ?_)
 ·rintro i ⟨hi,hj,he⟩
  rcases Nat.lt_or_ge i a.length with h|h
  ·have hlt:(i:Int)<((a.map I).length:Int):=by omega
   rcases Nat.lt_or_ge i b.length with h'|h'
   ·have hge: ¬(i:Int)≥((b.map I).length:Int):=by omega
    rw [tX h h'] at he
    unfold lex at he
    have hc:=zi a[i] b[i]
    generalize hg:rj a[i] b[i]=c at *
    by_cases hz:c=0
    ·rw [if_neg (by simpa using hz)] at he
     repeat' ((conv=>whnf);first|exact trivial|refine pt hlt ?_|(refine nv_ (I a[i]) (by first|(simp [h];done)|fail) ?_)|refine pq hge ?_|(refine nv_ (I b[i]) (by first|(simp [h'];done)|fail) ?_)|refine qk _ (hc) ?_|refine pz hz ?_|refine nT_ ?_|refine aE1 ?_|refine aE0 ?_|refine aN1 ?_|refine aN0 ?_|refine aD1 ?_|refine aD0 ?_|refine nE_ (fun hq=>?_) (fun hq=>?_)|refine nN_ (fun hq=>?_) (fun hq=>?_)|refine nD_ (fun hq=>?_) (fun hq=>?_)|refine rb1 ?_|refine rb0 ?_|refine rbx ?_|refine rix ?_|refine aS ?_|fail)
     exact ⟨i+1,⟨h,h',he⟩,by omega,by repeat' (first|exact trivial|exact LeV.same _|exact LeB.same _|exact rfl|exact fun _ _ _=>trivial|exact lI|exact LeV.nil _ _ _|exact lB|refine qq ?_|refine qo ?_|refine And.intro ?_ ?_)⟩
    ·rw [if_pos hz] at he
     rw [← he]
     repeat' ((conv=>whnf);first|exact trivial|refine pt hlt ?_|(refine nv_ (I a[i]) (by first|(simp [h];done)|fail) ?_)|refine pq hge ?_|(refine nv_ (I b[i]) (by first|(simp [h'];done)|fail) ?_)|refine qk _ (hc) ?_|refine ql hz ?_|refine nT_ ?_|refine aE1 ?_|refine aE0 ?_|refine aN1 ?_|refine aN0 ?_|refine aD1 ?_|refine aD0 ?_|refine nE_ (fun hq=>?_) (fun hq=>?_)|refine nN_ (fun hq=>?_) (fun hq=>?_)|refine nD_ (fun hq=>?_) (fun hq=>?_)|refine rb1 ?_|refine rb0 ?_|refine rbx ?_|refine rix ?_|refine aS ?_|fail)
   ·have hge:(i:Int)≥((b.map I).length:Int):=by omega
    rw [tY h h'] at he
    rw [← he]
    repeat' ((conv=>whnf);first|exact trivial|refine pt hlt ?_|(refine nv_ (I a[i]) (by first|(simp [h];done)|fail) ?_)|refine pt hge ?_|refine nT_ ?_|refine aE1 ?_|refine aE0 ?_|refine aN1 ?_|refine aN0 ?_|refine aD1 ?_|refine aD0 ?_|refine nE_ (fun hq=>?_) (fun hq=>?_)|refine nN_ (fun hq=>?_) (fun hq=>?_)|refine nD_ (fun hq=>?_) (fun hq=>?_)|refine rb1 ?_|refine rb0 ?_|refine rbx ?_|refine rix ?_|refine aS ?_|fail)
  ·have hlt: ¬(i:Int)<((a.map I).length:Int):=by omega
   obtain rfl:i=a.length:=by omega
   repeat' ((conv=>whnf);first|exact trivial|refine pq hlt ?_|refine nT_ ?_|refine aE1 ?_|refine aE0 ?_|refine aN1 ?_|refine aN0 ?_|refine aD1 ?_|refine aD0 ?_|refine nE_ (fun hq=>?_) (fun hq=>?_)|refine nN_ (fun hq=>?_) (fun hq=>?_)|refine nD_ (fun hq=>?_) (fun hq=>?_)|refine rb1 ?_|refine rb0 ?_|refine rbx ?_|refine rix ?_|refine aS ?_|fail)
   exact ⟨(),⟨hj,he⟩,by repeat' (first|exact trivial|exact LeV.same _|exact LeB.same _|exact rfl|exact fun _ _ _=>trivial|exact lI|exact LeV.nil _ _ _|exact lB|refine qq ?_|refine qo ?_|refine And.intro ?_ ?_)⟩
 rintro - ⟨hj,he⟩
 rw [sY (Nat.le_refl _) hj] at he
 rw [← he]
 by_cases h:a.length<b.length
 ·have hlt:((a.map I).length:Int)<((b.map I).length:Int):=by omega
  rw [if_pos h]
  repeat' ((conv=>whnf);first|exact trivial|refine pt hlt ?_|refine nT_ ?_|refine aE1 ?_|refine aE0 ?_|refine aN1 ?_|refine aN0 ?_|refine aD1 ?_|refine aD0 ?_|refine nE_ (fun hq=>?_) (fun hq=>?_)|refine nN_ (fun hq=>?_) (fun hq=>?_)|refine nD_ (fun hq=>?_) (fun hq=>?_)|refine rb1 ?_|refine rb0 ?_|refine rbx ?_|refine rix ?_|refine aS ?_|fail)
 ·have hlt: ¬((a.map I).length:Int)<((b.map I).length:Int):=by omega
  rw [if_neg h]
  repeat' ((conv=>whnf);first|exact trivial|refine pq hlt ?_|refine nT_ ?_|refine aE1 ?_|refine aE0 ?_|refine aN1 ?_|refine aN0 ?_|refine aD1 ?_|refine aD0 ?_|refine nE_ (fun hq=>?_) (fun hq=>?_)|refine nN_ (fun hq=>?_) (fun hq=>?_)|refine nD_ (fun hq=>?_) (fun hq=>?_)|refine rb1 ?_|refine rb0 ?_|refine rbx ?_|refine rix ?_|refine aS ?_|fail)
theorem za (a b:List Int) (hl:a.length<2^60) (hm:b.length<2^60):DCalls Try.prog 10 [.slice 1 (a.map I),.slice 1 (b.map I)] (I (qJ a b)):=by
 refine pN (rs:=[.tmp 4]) mixed Try.func10 l10 rfl rfl rfl (r:=[I _]) (nlZ rfl) ?_
 have ha:((a.map I).length:Int)=a.length:=by rw [List.length_map]
 have hb:((b.map I).length:Int)=b.length:=by rw [List.length_map]
 repeat' ((conv=>whnf);first|exact trivial|refine nT_ ?_|refine aE1 ?_|refine aE0 ?_|refine aN1 ?_|refine aN0 ?_|refine aD1 ?_|refine aD0 ?_|refine nE_ (fun hq=>?_) (fun hq=>?_)|refine nN_ (fun hq=>?_) (fun hq=>?_)|refine nD_ (fun hq=>?_) (fun hq=>?_)|refine rb1 ?_|refine rb0 ?_|refine rbx ?_|refine rix ?_|refine aS ?_|fail)
 refine pX 0 (α:=Nat) (β:=Nat) (fun i=>{sl:=[(0,.t (.slice 1 (a.map I))),(1,.t (.slice 1 (b.map I))),(5,.t (I i))],bx:=[]})
  (fun i=>i≤a.length∧i≤b.length∧qJ (a.drop i) (b.drop i)=qJ a b) (fun i=>a.length - i) (fun _=>{sl:=[(0,.t (.slice 1 (a.map I))),(1,.t (.slice 1 (b.map I)))],bx:=[]}) (fun i=>(i=a.length∨i=b.length)∧i≤a.length∧i≤b.length∧qJ (a.drop i) (b.drop i)=qJ a b) 0 ⟨by omega,by omega,rfl⟩ ?_ ?_ ?_
 ·repeat' (first|exact trivial|exact LeV.same _|exact LeB.same _|exact rfl|exact fun _ _ _=>trivial|exact lI|exact LeV.nil _ _ _|exact lB|refine qq ?_|refine qo ?_|refine And.intro ?_ ?_)
 ·rintro i ⟨hi,hj,he⟩
  rcases Nat.lt_or_ge i a.length with h|h
  ·have hlt:(i:Int)<((a.map I).length:Int):=by omega
   rcases Nat.lt_or_ge i b.length with h'|h'
   ·have hlt':(i:Int)<((b.map I).length:Int):=by omega
    rw [tX h h'] at he
    unfold lex rj at he
    by_cases c1:a[i]<b[i]
    ·rw [if_pos c1,if_pos (by decide)] at he
     rw [← he]
     repeat' ((conv=>whnf);first|exact trivial|refine pt hlt ?_|refine pt hlt' ?_|(refine nv_ (I a[i]) (by first|(simp [h];done)|fail) ?_)|(refine nv_ (I b[i]) (by first|(simp [h'];done)|fail) ?_)|refine pt c1 ?_|refine nT_ ?_|refine aE1 ?_|refine aE0 ?_|refine aN1 ?_|refine aN0 ?_|refine aD1 ?_|refine aD0 ?_|refine nE_ (fun hq=>?_) (fun hq=>?_)|refine nN_ (fun hq=>?_) (fun hq=>?_)|refine nD_ (fun hq=>?_) (fun hq=>?_)|refine rb1 ?_|refine rb0 ?_|refine rbx ?_|refine rix ?_|refine aS ?_|fail)
    ·by_cases c2:a[i]>b[i]
     ·rw [if_neg c1,if_pos c2,if_pos (by decide)] at he
      rw [← he]
      repeat' ((conv=>whnf);first|exact trivial|refine pt hlt ?_|refine pt hlt' ?_|(refine nv_ (I a[i]) (by first|(simp [h];done)|fail) ?_)|(refine nv_ (I b[i]) (by first|(simp [h'];done)|fail) ?_)|refine pq c1 ?_|refine pt c2 ?_|refine nT_ ?_|refine aE1 ?_|refine aE0 ?_|refine aN1 ?_|refine aN0 ?_|refine aD1 ?_|refine aD0 ?_|refine nE_ (fun hq=>?_) (fun hq=>?_)|refine nN_ (fun hq=>?_) (fun hq=>?_)|refine nD_ (fun hq=>?_) (fun hq=>?_)|refine rb1 ?_|refine rb0 ?_|refine rbx ?_|refine rix ?_|refine aS ?_|fail)
     ·rw [if_neg c1,if_neg c2,if_neg (by decide)] at he
      repeat' ((conv=>whnf);first|exact trivial|refine pt hlt ?_|refine pt hlt' ?_|(refine nv_ (I a[i]) (by first|(simp [h];done)|fail) ?_)|(refine nv_ (I b[i]) (by first|(simp [h'];done)|fail) ?_)|refine pq c1 ?_|refine pq c2 ?_|refine nT_ ?_|refine aE1 ?_|refine aE0 ?_|refine aN1 ?_|refine aN0 ?_|refine aD1 ?_|refine aD0 ?_|refine nE_ (fun hq=>?_) (fun hq=>?_)|refine nN_ (fun hq=>?_) (fun hq=>?_)|refine nD_ (fun hq=>?_) (fun hq=>?_)|refine rb1 ?_|refine rb0 ?_|refine rbx ?_|refine rix ?_|refine aS ?_|fail)
      exact ⟨i+1,⟨h,h',he⟩,by omega,by repeat' (first|exact trivial|exact LeV.same _|exact LeB.same _|exact rfl|exact fun _ _ _=>trivial|exact lI|exact LeV.nil _ _ _|exact lB|refine qq ?_|refine qo ?_|refine And.intro ?_ ?_)⟩
   ·have hlt': ¬(i:Int)<((b.map I).length:Int):=by omega
    repeat' ((conv=>whnf);first|exact trivial|refine pt hlt ?_|refine pq hlt' ?_|refine nT_ ?_|refine aE1 ?_|refine aE0 ?_|refine aN1 ?_|refine aN0 ?_|refine aD1 ?_|refine aD0 ?_|refine nE_ (fun hq=>?_) (fun hq=>?_)|refine nN_ (fun hq=>?_) (fun hq=>?_)|refine nD_ (fun hq=>?_) (fun hq=>?_)|refine rb1 ?_|refine rb0 ?_|refine rbx ?_|refine rix ?_|refine aS ?_|fail)
    exact ⟨i,⟨Or.inr (by omega),hi,hj,he⟩,by repeat' (first|exact trivial|exact LeV.same _|exact LeB.same _|exact rfl|exact fun _ _ _=>trivial|exact lI|exact LeV.nil _ _ _|exact lB|refine qq ?_|refine qo ?_|refine And.intro ?_ ?_)⟩
  ·have hlt: ¬(i:Int)<((a.map I).length:Int):=by omega
   repeat' ((conv=>whnf);first|exact trivial|refine pq hlt ?_|refine nT_ ?_|refine aE1 ?_|refine aE0 ?_|refine aN1 ?_|refine aN0 ?_|refine aD1 ?_|refine aD0 ?_|refine nE_ (fun hq=>?_) (fun hq=>?_)|refine nN_ (fun hq=>?_) (fun hq=>?_)|refine nD_ (fun hq=>?_) (fun hq=>?_)|refine rb1 ?_|refine rb0 ?_|refine rbx ?_|refine rix ?_|refine aS ?_|fail)
   exact ⟨i,⟨Or.inl (by omega),hi,hj,he⟩,by repeat' (first|exact trivial|exact LeV.same _|exact LeB.same _|exact rfl|exact fun _ _ _=>trivial|exact lI|exact LeV.nil _ _ _|exact lB|refine qq ?_|refine qo ?_|refine And.intro ?_ ?_)⟩
 rintro i ⟨ho,hi,hj,he⟩
 rcases Nat.lt_trichotomy a.length b.length with h|h|h
 ·have hlt:((a.map I).length:Int)<((b.map I).length:Int):=by omega
  rw [sY (by omega) hj,if_pos (by omega)] at he
  rw [← he]
  repeat' ((conv=>whnf);first|exact trivial|refine pt hlt ?_|refine nT_ ?_|refine aE1 ?_|refine aE0 ?_|refine aN1 ?_|refine aN0 ?_|refine aD1 ?_|refine aD0 ?_|refine nE_ (fun hq=>?_) (fun hq=>?_)|refine nN_ (fun hq=>?_) (fun hq=>?_)|refine nD_ (fun hq=>?_) (fun hq=>?_)|refine rb1 ?_|refine rb0 ?_|refine rbx ?_|refine rix ?_|refine aS ?_|fail)
 ·have hlt: ¬((a.map I).length:Int)<((b.map I).length:Int):=by omega
  have hgt: ¬((a.map I).length:Int)>((b.map I).length:Int):=by omega
  rw [sY (by omega) hj,if_neg (by omega)] at he
  rw [← he]
  repeat' ((conv=>whnf);first|exact trivial|refine pq hlt ?_|refine pq hgt ?_|refine nT_ ?_|refine aE1 ?_|refine aE0 ?_|refine aN1 ?_|refine aN0 ?_|refine aD1 ?_|refine aD0 ?_|refine nE_ (fun hq=>?_) (fun hq=>?_)|refine nN_ (fun hq=>?_) (fun hq=>?_)|refine nD_ (fun hq=>?_) (fun hq=>?_)|refine rb1 ?_|refine rb0 ?_|refine rbx ?_|refine rix ?_|refine aS ?_|fail)
 ·have hlt: ¬((a.map I).length:Int)<((b.map I).length:Int):=by omega
  have hgt:((a.map I).length:Int)>((b.map I).length:Int):=by omega
  rw [tY (by omega) (by omega)] at he
  rw [← he]
  repeat' ((conv=>whnf);first|exact trivial|refine pq hlt ?_|refine pt hgt ?_|refine nT_ ?_|refine aE1 ?_|refine aE0 ?_|refine aN1 ?_|refine aN0 ?_|refine aD1 ?_|refine aD0 ?_|refine nE_ (fun hq=>?_) (fun hq=>?_)|refine nN_ (fun hq=>?_) (fun hq=>?_)|refine nD_ (fun hq=>?_) (fun hq=>?_)|refine rb1 ?_|refine rb0 ?_|refine rbx ?_|refine rix ?_|refine aS ?_|fail)
abbrev kOk (e:RE):Prop:=e.key.length<2^60
theorem rB (a b:RE) (ha:kOk a) (hb:kOk b):DCalls Try.prog 35 [qx a,qx b] (I (qB a b)):=by
 refine pN (rs:=[.tmp 4]) mixed Try.func35 l35 rfl rfl rfl (r:=[I _]) (nlZ rfl) ?_
 have h1:=zk a.var b.var
 have h2:=zj a.key b.key ha hb
 have h3:=zH (rK a.var b.var) (qJ a.key b.key)
 unfold qB
 repeat' ((conv=>whnf);first|exact trivial|refine qk _ (h1) ?_|refine qk _ (h2) ?_|refine qk _ (h3) ?_|refine nT_ ?_|refine aE1 ?_|refine aE0 ?_|refine aN1 ?_|refine aN0 ?_|refine aD1 ?_|refine aD0 ?_|refine nE_ (fun hq=>?_) (fun hq=>?_)|refine nN_ (fun hq=>?_) (fun hq=>?_)|refine nD_ (fun hq=>?_) (fun hq=>?_)|refine rb1 ?_|refine rb0 ?_|refine rbx ?_|refine rix ?_|refine aS ?_|fail)
end Go.ST
end
section
namespace Go.ST
open Go Go.DL Go.MM Go.Proofs
open Go.TY hiding Fd
theorem eqS (a b:ByteArray):(a.toList==b.toList)=decide (a=b):=by
 by_cases h:a=b
 ·simp [h]
 ·have: ¬a.toList=b.toList:=fun e=>h (sF e)
  simp [h,this]
theorem qw (e:RE):(qu e).length=4:=rfl
abbrev esT (st:List RE):T:=.slice 4 (st.map qx)
theorem qU {st:List RE} {i:Nat} (h:i<st.length):(st.map qx)[i]?.getD .nil= .agg (qu st[i]):=by simp [h,qx]
def qZ {α:Type} (p:α→Bool) (xs:List α):Int:=match xs.findIdx? p with
 |some i=>(i:Int)
 |none=> -1
theorem tG {α:Type} {p:α→Bool} {xs:List α} {i:Nat} (h:i<xs.length) (hb:p xs[i]=true) (hp: ∀j (h:j<xs.length),j<i→p xs[j]=false):qZ p xs=i:=by
 unfold qZ
 have:xs.findIdx? p=some i:=List.findIdx?_eq_some_iff_getElem.2 ⟨h,hb,fun j hj=>by simp [hp j (by omega) hj]⟩
 rw [this]
theorem tH {α:Type} {p:α→Bool} {xs:List α} (hp: ∀j (h:j<xs.length),p xs[j]=false):qZ p xs= -1:=by
 unfold qZ
 have:xs.findIdx? p=none:=List.findIdx?_eq_none_iff.2 fun x hx=>by
  obtain ⟨j,hj,rfl⟩:=List.getElem_of_mem hx
  exact hp j hj
 rw [this]
theorem sL {α:Type} (p:α→Bool) (xs:List α):(qZ p xs= -1∧xs.find? p=none)∨ ∃(i:Nat) (h:i<xs.length),qZ p xs=i∧xs.find? p=some xs[i]:=by
 unfold qZ
 cases h:xs.findIdx? p with
 |none=>
  refine Or.inl ⟨rfl,?_⟩
  rw [List.find?_eq_none]
  intro x hx
  simpa using List.findIdx?_eq_none_iff.1 h x hx
 |some i=>
  obtain ⟨h1,h2,h3⟩:=List.findIdx?_eq_some_iff_getElem.1 h
  refine Or.inr ⟨i,h1,rfl,?_⟩
  rw [List.find?_eq_some_iff_getElem]
  exact ⟨h2,i,h1,rfl,fun j hj=>by simpa using h3 j hj⟩
theorem wX {α:Type} (p:α→Bool) (xs:List α):xs.any p=decide (qZ p xs≥0):=by
 unfold qZ
 cases h:xs.findIdx? p with
 |none=>
  have:=List.findIdx?_eq_none_iff.1 h
  simpa using this
 |some i=>
  obtain ⟨h1,h2,_⟩:=List.findIdx?_eq_some_iff_getElem.1 h
  have:xs.any p=true:=List.any_eq_true.2 ⟨xs[i],List.getElem_mem h1,h2⟩
  rw [this];simp
theorem sW (xs:List RE) (f:FuncId) (c:T) (p:RE→Bool) (hl:xs.length<2^60) (hc: ∀(i:Nat) (h:i<xs.length),DCalls Try.prog f [.agg (qu xs[i]),c] (.bool (p xs[i]))):
  DCalls Try.prog 46 [esT xs,.clos f [c]] (I (qZ p xs)):=by
 refine pN (rs:=[.tmp 4]) mixed Try.func46 l46 rfl rfl rfl (r:=[.int _ _]) (nlZ rfl) ?_
 repeat' ((conv=>whnf);first|exact trivial|refine nT_ ?_|refine aE1 ?_|refine aE0 ?_|refine aN1 ?_|refine aN0 ?_|refine aD1 ?_|refine aD0 ?_|refine nE_ (fun hq=>?_) (fun hq=>?_)|refine nN_ (fun hq=>?_) (fun hq=>?_)|refine nD_ (fun hq=>?_) (fun hq=>?_)|refine rb1 ?_|refine rb0 ?_|refine rbx ?_|refine rix ?_|refine aS ?_|fail)
 refine qc (α:=Nat) (fun i=>{sl:=[(0,.t (esT xs)),(1,.t (.clos f [c])),(6,.t (esT xs)),(7,.t (I xs.length)),(8,.t (I i))],bx:=[]})
  (fun i=>i≤xs.length∧ ∀j (h:j<xs.length),j<i→p xs[j]=false) (fun i=>xs.length - i) 0 (by simp) ?_ ?_
 ·repeat' (first|(exact leI (by simp))|exact trivial|exact LeV.same _|exact LeB.same _|exact rfl|exact fun _ _ _=>trivial|exact lI|exact LeV.nil _ _ _|exact lB|refine qq ?_|refine qo ?_|refine And.intro ?_ ?_)
 rintro i ⟨hi,hp⟩
 rcases Nat.lt_or_ge i xs.length with h|h
 ·have h0:=hc i h
  cases hb:p xs[i] with
  |true=>
   rw [hb] at h0
   rw [tG h hb hp]
   repeat' ((conv=>whnf);first|exact trivial|(refine nv_ (.agg (qu xs[i])) (by first|exact qU h|fail) ?_)|refine qk _ (h0) ?_|refine nT_ ?_|refine aE1 ?_|refine aE0 ?_|refine aN1 ?_|refine aN0 ?_|refine aD1 ?_|refine aD0 ?_|refine nE_ (fun hq=>?_) (fun hq=>?_)|refine nN_ (fun hq=>?_) (fun hq=>?_)|refine nD_ (fun hq=>?_) (fun hq=>?_)|refine rb1 ?_|refine rb0 ?_|refine rbx ?_|refine rix ?_|(refine And.intro (by first|exact qw _|fail) ?_)|refine aS ?_|fail)
  |false=>
   rw [hb] at h0
   repeat' ((conv=>whnf);first|exact trivial|(refine nv_ (.agg (qu xs[i])) (by first|exact qU h|fail) ?_)|refine qk _ (h0) ?_|refine nT_ ?_|refine aE1 ?_|refine aE0 ?_|refine aN1 ?_|refine aN0 ?_|refine aD1 ?_|refine aD0 ?_|refine nE_ (fun hq=>?_) (fun hq=>?_)|refine nN_ (fun hq=>?_) (fun hq=>?_)|refine nD_ (fun hq=>?_) (fun hq=>?_)|refine rb1 ?_|refine rb0 ?_|refine rbx ?_|refine rix ?_|(refine And.intro (by first|exact qw _|fail) ?_)|refine aS ?_|fail)
   refine ⟨i+1,⟨h,fun j hj hlt=>?_⟩,by omega,?_⟩
   ·rcases Nat.lt_or_ge j i with h4|h4
    ·exact hp j hj h4
    ·obtain rfl:j=i:=by omega
     exact hb
   ·repeat' (first|exact trivial|exact LeV.same _|exact LeB.same _|exact rfl|exact fun _ _ _=>trivial|exact lI|exact LeV.nil _ _ _|exact lB|refine qq ?_|refine qo ?_|refine And.intro ?_ ?_)
 ·rw [tH fun j hj=>hp j hj (by omega)]
  repeat' ((conv=>whnf);first|exact trivial|refine nT_ ?_|refine aE1 ?_|refine aE0 ?_|refine aN1 ?_|refine aN0 ?_|refine aD1 ?_|refine aD0 ?_|refine nE_ (fun hq=>?_) (fun hq=>?_)|refine nN_ (fun hq=>?_) (fun hq=>?_)|refine nD_ (fun hq=>?_) (fun hq=>?_)|refine rb1 ?_|refine rb0 ?_|refine rbx ?_|refine rix ?_|refine aS ?_|fail)
theorem u4 (xs:List RE) (f:FuncId) (c:T) (p:RE→Bool) (hl:xs.length<2^60) (hc: ∀(i:Nat) (h:i<xs.length),DCalls Try.prog f [.agg (qu xs[i]),c] (.bool (p xs[i]))):
  DCalls Try.prog 62 [esT xs,.clos f [c]] (.bool (xs.any p)):=by
 refine pN (rs:=[.tmp 4]) mixed Try.func62 l62 rfl rfl rfl (r:=[.bool _]) (nlZ rfl) ?_
 have h1:=sW xs f c p hl hc
 rw [wX p xs]
 generalize qZ p xs=k at *
 repeat' ((conv=>whnf);first|exact trivial|refine qk _ (h1) ?_|refine nT_ ?_|refine aE1 ?_|refine aE0 ?_|refine aN1 ?_|refine aN0 ?_|refine aD1 ?_|refine aD0 ?_|refine nE_ (fun hq=>?_) (fun hq=>?_)|refine nN_ (fun hq=>?_) (fun hq=>?_)|refine nD_ (fun hq=>?_) (fun hq=>?_)|refine rb1 ?_|refine rb0 ?_|refine rbx ?_|refine rix ?_|refine aS ?_|fail)
abbrev vsT (vars:List RV):T:=.slice 5 (vars.map wT)
theorem qA (v:RV):(q7 v).length=5:=rfl
theorem s4 {vars:List RV} {i:Nat} (h:i<vars.length):(vars.map wT)[i]?.getD .nil= .agg (q7 vars[i]):=by simp [h,wT]
abbrev tu (name:ByteArray):RV→Bool:=fun v=>decide (v.name=name)
theorem xu (v:RV) (e:RE):DCalls Try.prog 39 [.agg (q7 v),.cptr (qu e) 0] (.bool (decide (v.name=e.var))):=by
 refine pN (rs:=[.tmp 3]) mixed Try.func39 l39 rfl rfl rfl (r:=[.bool _]) (nlZ rfl) ?_
 have h:=eqS v.name e.var
 repeat' ((conv=>whnf);first|exact trivial|refine nb_ _ h ?_|refine nT_ ?_|refine aE1 ?_|refine aE0 ?_|refine aN1 ?_|refine aN0 ?_|refine aD1 ?_|refine aD0 ?_|refine nE_ (fun hq=>?_) (fun hq=>?_)|refine nN_ (fun hq=>?_) (fun hq=>?_)|refine nD_ (fun hq=>?_) (fun hq=>?_)|refine rb1 ?_|refine rb0 ?_|refine rbx ?_|refine rix ?_|(refine And.intro (by first|exact qA _|exact qw _|fail) ?_)|refine aS ?_|fail)
theorem wG (vars:List RV) (e:RE) (hl:vars.length<2^60):DCalls Try.prog 38 [vsT vars,.clos 39 [.cptr (qu e) 0]] (I (qZ (tu e.var) vars)):=by
 refine pN (rs:=[.tmp 4]) mixed Try.func38 l38 rfl rfl rfl (r:=[.int _ _]) (nlZ rfl) ?_
 repeat' ((conv=>whnf);first|exact trivial|refine nT_ ?_|refine aE1 ?_|refine aE0 ?_|refine aN1 ?_|refine aN0 ?_|refine aD1 ?_|refine aD0 ?_|refine nE_ (fun hq=>?_) (fun hq=>?_)|refine nN_ (fun hq=>?_) (fun hq=>?_)|refine nD_ (fun hq=>?_) (fun hq=>?_)|refine rb1 ?_|refine rb0 ?_|refine rbx ?_|refine rix ?_|refine aS ?_|fail)
 refine qc (α:=Nat) (fun i=>{sl:=[(0,.t (vsT vars)),(1,.t (.clos 39 [.cptr (qu e) 0])),(6,.t (vsT vars)),(7,.t (I vars.length)),(8,.t (I i))],bx:=[]})
  (fun i=>i≤vars.length∧ ∀j (h:j<vars.length),j<i→tu e.var vars[j]=false) (fun i=>vars.length - i) 0 (by simp) ?_ ?_
 ·repeat' (first|(exact leI (by simp))|exact trivial|exact LeV.same _|exact LeB.same _|exact rfl|exact fun _ _ _=>trivial|exact lI|exact LeV.nil _ _ _|exact lB|refine qq ?_|refine qo ?_|refine And.intro ?_ ?_)
 rintro i ⟨hi,hp⟩
 rcases Nat.lt_or_ge i vars.length with h|h
 ·have h0:=xu vars[i] e
  cases hb:decide (vars[i].name=e.var) with
  |true=>
   rw [hb] at h0
   rw [tG h hb hp]
   repeat' ((conv=>whnf);first|exact trivial|(refine nv_ (.agg (q7 vars[i])) (by first|exact s4 h|fail) ?_)|refine qk _ (h0) ?_|refine nT_ ?_|refine aE1 ?_|refine aE0 ?_|refine aN1 ?_|refine aN0 ?_|refine aD1 ?_|refine aD0 ?_|refine nE_ (fun hq=>?_) (fun hq=>?_)|refine nN_ (fun hq=>?_) (fun hq=>?_)|refine nD_ (fun hq=>?_) (fun hq=>?_)|refine rb1 ?_|refine rb0 ?_|refine rbx ?_|refine rix ?_|(refine And.intro (by first|exact qA _|fail) ?_)|refine aS ?_|fail)
  |false=>
   rw [hb] at h0
   repeat' ((conv=>whnf);first|exact trivial|(refine nv_ (.agg (q7 vars[i])) (by first|exact s4 h|fail) ?_)|refine qk _ (h0) ?_|refine nT_ ?_|refine aE1 ?_|refine aE0 ?_|refine aN1 ?_|refine aN0 ?_|refine aD1 ?_|refine aD0 ?_|refine nE_ (fun hq=>?_) (fun hq=>?_)|refine nN_ (fun hq=>?_) (fun hq=>?_)|refine nD_ (fun hq=>?_) (fun hq=>?_)|refine rb1 ?_|refine rb0 ?_|refine rbx ?_|refine rix ?_|(refine And.intro (by first|exact qA _|fail) ?_)|refine aS ?_|fail)
   refine ⟨i+1,⟨h,fun j hj hlt=>?_⟩,by omega,?_⟩
   ·rcases Nat.lt_or_ge j i with h4|h4
    ·exact hp j hj h4
    ·obtain rfl:j=i:=by omega
     exact hb
   ·repeat' (first|exact trivial|exact LeV.same _|exact LeB.same _|exact rfl|exact fun _ _ _=>trivial|exact lI|exact LeV.nil _ _ _|exact lB|refine qq ?_|refine qo ?_|refine And.intro ?_ ?_)
 ·rw [tH fun j hj=>hp j hj (by omega)]
  repeat' ((conv=>whnf);first|exact trivial|refine nT_ ?_|refine aE1 ?_|refine aE0 ?_|refine aN1 ?_|refine aN0 ?_|refine aD1 ?_|refine aD0 ?_|refine nE_ (fun hq=>?_) (fun hq=>?_)|refine nN_ (fun hq=>?_) (fun hq=>?_)|refine nD_ (fun hq=>?_) (fun hq=>?_)|refine rb1 ?_|refine rb0 ?_|refine rbx ?_|refine rix ?_|refine aS ?_|fail)
theorem uX {st:List RE} {v:ByteArray} {i:Nat} (h:i<st.length):qM (st.take (i+1)) v=qM (st.take i) v+if st[i].var=v then 1 else 0:=by
 rw [List.take_succ_eq_append_getElem h,uW]
end Go.ST
end
section
namespace Go.ST
open Go Go.DL Go.MM Go.Proofs
open Go.TY hiding Fd
theorem yr (x e:RE):DCalls Try.prog 63 [.agg (qu x),.cptr (qu e) 0] (.bool (decide (x.var=e.var)&&decide (x.n=e.n))):=by
 refine pN (rs:=[.tmp 3]) mixed Try.func63 l63 rfl rfl rfl (r:=[.bool _]) (nlZ rfl) ?_
 have h:=eqS x.var e.var
 by_cases h1:x.var=e.var
 ·rw [decide_eq_true h1] at h
  rw [decide_eq_true h1,Bool.true_and]
  by_cases h2:x.n=e.n
  ·rw [decide_eq_true h2]
   repeat' ((conv=>whnf);first|exact trivial|refine nb_ _ h ?_|refine py h2 ?_|refine nT_ ?_|refine aE1 ?_|refine aE0 ?_|refine aN1 ?_|refine aN0 ?_|refine aD1 ?_|refine aD0 ?_|refine nE_ (fun hq=>?_) (fun hq=>?_)|refine nN_ (fun hq=>?_) (fun hq=>?_)|refine nD_ (fun hq=>?_) (fun hq=>?_)|refine rb1 ?_|refine rb0 ?_|refine rbx ?_|refine rix ?_|(refine And.intro (by first|exact qw _|fail) ?_)|refine aS ?_|fail)
  ·rw [decide_eq_false h2]
   repeat' ((conv=>whnf);first|exact trivial|refine nb_ _ h ?_|refine px h2 ?_|refine nT_ ?_|refine aE1 ?_|refine aE0 ?_|refine aN1 ?_|refine aN0 ?_|refine aD1 ?_|refine aD0 ?_|refine nE_ (fun hq=>?_) (fun hq=>?_)|refine nN_ (fun hq=>?_) (fun hq=>?_)|refine nD_ (fun hq=>?_) (fun hq=>?_)|refine rb1 ?_|refine rb0 ?_|refine rbx ?_|refine rix ?_|(refine And.intro (by first|exact qw _|fail) ?_)|refine aS ?_|fail)
 ·rw [decide_eq_false h1] at h
  rw [decide_eq_false h1,Bool.false_and]
  repeat' ((conv=>whnf);first|exact trivial|refine nb_ _ h ?_|refine nT_ ?_|refine aE1 ?_|refine aE0 ?_|refine aN1 ?_|refine aN0 ?_|refine aD1 ?_|refine aD0 ?_|refine nE_ (fun hq=>?_) (fun hq=>?_)|refine nN_ (fun hq=>?_) (fun hq=>?_)|refine nD_ (fun hq=>?_) (fun hq=>?_)|refine rb1 ?_|refine rb0 ?_|refine rbx ?_|refine rix ?_|(refine And.intro (by first|exact qw _|fail) ?_)|refine aS ?_|fail)
structure VOk (v:RV):Prop where
 len:v.ws.length<2^40
 w: ∀w∈v.ws,1≤w∧w≤60
theorem vZ {k w:List Int} {i:Nat} (hk:i<k.length) (hw:i<w.length):rL (k.drop i) (w.drop i)=(decide (0≤k[i])&&decide (k[i]<2^w[i].toNat)&&rL (k.drop (i+1)) (w.drop (i+1))):=by
 rw [List.drop_eq_getElem_cons hk,List.drop_eq_getElem_cons hw];rfl
theorem Am {w:Int} (h1:1≤w) (h2:w≤60):IntKind.wrap .i64 (1 * 2^(min w.toNat (IntKind.bits .i64)))=2^w.toNat:=by
 have hb:IntKind.bits .i64=64:=rfl
 rw [hb,Nat.min_eq_left (by omega),Int.one_mul]
 have hp:(2:Int)^w.toNat≤2^60:=by exact_mod_cast Nat.pow_le_pow_right (by decide) (show w.toNat≤60 by omega)
 have h0:(0:Int)<2^w.toNat:=Int.pow_pos (by decide)
 rw [lS] <;> omega
theorem uL {e:RE}:tL e=false↔(e.n<0∨e.n>65535∨e.at_<0∨e.at_>1073741824):=by
 unfold tL
 rw [← Bool.not_eq_true]
 simp only [Bool.and_eq_true,decide_eq_true_eq]
 omega
theorem zl (v:RV) (hv:VOk v) (e:RE) (_:kOk e) (before:List RE) (hb:before.length<2^60):DCalls Try.prog 40 [.agg (q7 v),.agg (qu e),esT before] (.bool (tF v e before)):=by
 refine pN (rs:=[.tmp 6]) mixed Try.func40 l40 rfl rfl rfl (r:=[.bool _]) (nlZ rfl) ?_
 have hkl:((e.key.map I).length:Int)=e.key.length:=by rw [List.length_map]
 have hwl:((v.ws.map I).length:Int)=v.ws.length:=by rw [List.length_map]
 have hvl:=hv.len
 unfold tF
 by_cases hl:e.key.length=v.ws.length
 case neg=>
  have hf:rL e.key v.ws=false:=by
   cases hc:rL e.key v.ws with
   |false=>rfl
   |true=>exact absurd (uF hc) hl
  have hn:((e.key.map I).length:Int)≠((v.ws.map I).length:Int):=by omega
  rw [hf,Bool.and_false,Bool.false_and]
  repeat' ((conv=>whnf);first|exact trivial|refine ql hn ?_|refine nT_ ?_|refine aE1 ?_|refine aE0 ?_|refine aN1 ?_|refine aN0 ?_|refine aD1 ?_|refine aD0 ?_|refine nE_ (fun hq=>?_) (fun hq=>?_)|refine nN_ (fun hq=>?_) (fun hq=>?_)|refine nD_ (fun hq=>?_) (fun hq=>?_)|refine rb1 ?_|refine rb0 ?_|refine rbx ?_|refine rix ?_|(refine And.intro (by first|exact qA _|exact qw _|fail) ?_)|refine aS ?_|fail)
 have hn:((e.key.map I).length:Int)=((v.ws.map I).length:Int):=by omega
 cases hnum:tL e with
 |false=>
  rcases uL.1 hnum with h|h|h|h
  ·rw [Bool.false_and,Bool.false_and]
   repeat' ((conv=>whnf);first|exact trivial|refine pz hn ?_|refine pt h ?_|refine nT_ ?_|refine aE1 ?_|refine aE0 ?_|refine aN1 ?_|refine aN0 ?_|refine aD1 ?_|refine aD0 ?_|refine nE_ (fun hq=>?_) (fun hq=>?_)|refine nN_ (fun hq=>?_) (fun hq=>?_)|refine nD_ (fun hq=>?_) (fun hq=>?_)|refine rb1 ?_|refine rb0 ?_|refine rbx ?_|refine rix ?_|(refine And.intro (by first|exact qA _|exact qw _|fail) ?_)|refine aS ?_|fail)
  ·rw [Bool.false_and,Bool.false_and]
   have h0: ¬e.n<0:=by omega
   repeat' ((conv=>whnf);first|exact trivial|refine pz hn ?_|refine pq h0 ?_|refine pt h ?_|refine nT_ ?_|refine aE1 ?_|refine aE0 ?_|refine aN1 ?_|refine aN0 ?_|refine aD1 ?_|refine aD0 ?_|refine nE_ (fun hq=>?_) (fun hq=>?_)|refine nN_ (fun hq=>?_) (fun hq=>?_)|refine nD_ (fun hq=>?_) (fun hq=>?_)|refine rb1 ?_|refine rb0 ?_|refine rbx ?_|refine rix ?_|(refine And.intro (by first|exact qA _|exact qw _|fail) ?_)|refine aS ?_|fail)
  ·rw [Bool.false_and,Bool.false_and]
   by_cases h0:e.n<0
   ·repeat' ((conv=>whnf);first|exact trivial|refine pz hn ?_|refine pt h0 ?_|refine nT_ ?_|refine aE1 ?_|refine aE0 ?_|refine aN1 ?_|refine aN0 ?_|refine aD1 ?_|refine aD0 ?_|refine nE_ (fun hq=>?_) (fun hq=>?_)|refine nN_ (fun hq=>?_) (fun hq=>?_)|refine nD_ (fun hq=>?_) (fun hq=>?_)|refine rb1 ?_|refine rb0 ?_|refine rbx ?_|refine rix ?_|(refine And.intro (by first|exact qA _|exact qw _|fail) ?_)|refine aS ?_|fail)
   by_cases h1:e.n>65535
   ·repeat' ((conv=>whnf);first|exact trivial|refine pz hn ?_|refine pq h0 ?_|refine pt h1 ?_|refine nT_ ?_|refine aE1 ?_|refine aE0 ?_|refine aN1 ?_|refine aN0 ?_|refine aD1 ?_|refine aD0 ?_|refine nE_ (fun hq=>?_) (fun hq=>?_)|refine nN_ (fun hq=>?_) (fun hq=>?_)|refine nD_ (fun hq=>?_) (fun hq=>?_)|refine rb1 ?_|refine rb0 ?_|refine rbx ?_|refine rix ?_|(refine And.intro (by first|exact qA _|exact qw _|fail) ?_)|refine aS ?_|fail)
   repeat' ((conv=>whnf);first|exact trivial|refine pz hn ?_|refine pq h0 ?_|refine pq h1 ?_|refine pt h ?_|refine nT_ ?_|refine aE1 ?_|refine aE0 ?_|refine aN1 ?_|refine aN0 ?_|refine aD1 ?_|refine aD0 ?_|refine nE_ (fun hq=>?_) (fun hq=>?_)|refine nN_ (fun hq=>?_) (fun hq=>?_)|refine nD_ (fun hq=>?_) (fun hq=>?_)|refine rb1 ?_|refine rb0 ?_|refine rbx ?_|refine rix ?_|(refine And.intro (by first|exact qA _|exact qw _|fail) ?_)|refine aS ?_|fail)
  ·rw [Bool.false_and,Bool.false_and]
   by_cases h0:e.n<0
   ·repeat' ((conv=>whnf);first|exact trivial|refine pz hn ?_|refine pt h0 ?_|refine nT_ ?_|refine aE1 ?_|refine aE0 ?_|refine aN1 ?_|refine aN0 ?_|refine aD1 ?_|refine aD0 ?_|refine nE_ (fun hq=>?_) (fun hq=>?_)|refine nN_ (fun hq=>?_) (fun hq=>?_)|refine nD_ (fun hq=>?_) (fun hq=>?_)|refine rb1 ?_|refine rb0 ?_|refine rbx ?_|refine rix ?_|(refine And.intro (by first|exact qA _|exact qw _|fail) ?_)|refine aS ?_|fail)
   by_cases h1:e.n>65535
   ·repeat' ((conv=>whnf);first|exact trivial|refine pz hn ?_|refine pq h0 ?_|refine pt h1 ?_|refine nT_ ?_|refine aE1 ?_|refine aE0 ?_|refine aN1 ?_|refine aN0 ?_|refine aD1 ?_|refine aD0 ?_|refine nE_ (fun hq=>?_) (fun hq=>?_)|refine nN_ (fun hq=>?_) (fun hq=>?_)|refine nD_ (fun hq=>?_) (fun hq=>?_)|refine rb1 ?_|refine rb0 ?_|refine rbx ?_|refine rix ?_|(refine And.intro (by first|exact qA _|exact qw _|fail) ?_)|refine aS ?_|fail)
   have h2: ¬e.at_<0:=by omega
   repeat' ((conv=>whnf);first|exact trivial|refine pz hn ?_|refine pq h0 ?_|refine pq h1 ?_|refine pq h2 ?_|refine pt h ?_|refine nT_ ?_|refine aE1 ?_|refine aE0 ?_|refine aN1 ?_|refine aN0 ?_|refine aD1 ?_|refine aD0 ?_|refine nE_ (fun hq=>?_) (fun hq=>?_)|refine nN_ (fun hq=>?_) (fun hq=>?_)|refine nD_ (fun hq=>?_) (fun hq=>?_)|refine rb1 ?_|refine rb0 ?_|refine rbx ?_|refine rix ?_|(refine And.intro (by first|exact qA _|exact qw _|fail) ?_)|refine aS ?_|fail)
 |true=>
 have hno: ¬(e.n<0∨e.n>65535∨e.at_<0∨e.at_>1073741824):=fun h=>by rw [uL.2 h] at hnum;cases hnum
 have h0: ¬e.n<0:=by omega
 have h1: ¬e.n>65535:=by omega
 have h2: ¬e.at_<0:=by omega
 have h3: ¬e.at_>1073741824:=by omega
 rw [Bool.true_and]
 repeat' ((conv=>whnf);first|exact trivial|refine pz hn ?_|refine pq h0 ?_|refine pq h1 ?_|refine pq h2 ?_|refine pq h3 ?_|refine nT_ ?_|refine aE1 ?_|refine aE0 ?_|refine aN1 ?_|refine aN0 ?_|refine aD1 ?_|refine aD0 ?_|refine nE_ (fun hq=>?_) (fun hq=>?_)|refine nN_ (fun hq=>?_) (fun hq=>?_)|refine nD_ (fun hq=>?_) (fun hq=>?_)|refine rb1 ?_|refine rb0 ?_|refine rbx ?_|refine rix ?_|(refine And.intro (by first|exact qA _|exact qw _|fail) ?_)|refine aS ?_|fail)
 refine pX 0 (α:=Nat) (β:=Unit) (fun i=>{sl:=[(2,.t (esT before)),(3,.ptr 3 0),(4,.ptr 4 0),(37,.t (.slice 1 (e.key.map I))),(38,.t (I e.key.length)),(39,.t (I i))],bx:=[(3,.d 5 (q7 v)),(4,.d 4 (qu e))]})
  (fun i=>i≤e.key.length∧rL (e.key.drop i) (v.ws.drop i)=rL e.key v.ws) (fun i=>e.key.length - i) (fun _=>{sl:=[(2,.t (esT before)),(3,.ptr 3 0),(4,.ptr 4 0)],bx:=[(3,.d 5 (q7 v)),(4,.d 4 (qu e))]}) (fun _=>rL e.key v.ws=true) 0 ⟨by omega,rfl⟩ ?_ ?_ ?_
 ·repeat' (first|(exact leI (by simp))|exact trivial|exact LeV.same _|exact LeB.same _|exact rfl|exact fun _ _ _=>trivial|exact lI|exact LeV.nil _ _ _|exact lB|refine qq ?_|refine qo ?_|refine And.intro ?_ ?_)
 ·rintro i ⟨hi,hf⟩
  rcases Nat.lt_or_ge i e.key.length with h|h
  ·have h':i<v.ws.length:=by omega
   rw [vZ h h'] at hf
   obtain ⟨w1,w2⟩:=hv.w v.ws[i] (List.getElem_mem h')
   have hs:=Am w1 w2
   have hki:(e.key.map I)[i]?.getD .nil=I e.key[i]:=by simp [h]
   have hwi:(v.ws.map I)[i]?.getD .nil=I v.ws[i]:=by simp [h']
   generalize v.ws[i]=w at *
   generalize e.key[i]=k at *
   by_cases c0:k<0
   ·rw [show decide (0≤k)=false by simp;omega,Bool.false_and,Bool.false_and] at hf
    rw [← hf,Bool.false_and]
    repeat' ((conv=>whnf);first|exact trivial|(refine nv_ (I k) (by first|exact hki|fail) ?_)|refine pt c0 ?_|refine nT_ ?_|refine aE1 ?_|refine aE0 ?_|refine aN1 ?_|refine aN0 ?_|refine aD1 ?_|refine aD0 ?_|refine nE_ (fun hq=>?_) (fun hq=>?_)|refine nN_ (fun hq=>?_) (fun hq=>?_)|refine nD_ (fun hq=>?_) (fun hq=>?_)|refine rb1 ?_|refine rb0 ?_|refine rbx ?_|refine rix ?_|(refine And.intro (by first|exact qA _|exact qw _|fail) ?_)|refine aS ?_|fail)
   ·rw [show decide (0≤k)=true by simp;omega,Bool.true_and] at hf
    by_cases c1:k<2^w.toNat
    ·rw [decide_eq_true c1,Bool.true_and] at hf
     have hge: ¬k≥IntKind.wrap .i64 (1 * 2^(min w.toNat (IntKind.bits .i64))):=by rw [hs];omega
     repeat' ((conv=>whnf);first|exact trivial|(refine nv_ (I k) (by first|exact hki|fail) ?_)|(refine nv_ (I w) (by first|exact hwi|fail) ?_)|refine pq c0 ?_|refine pq hge ?_|refine nT_ ?_|refine aE1 ?_|refine aE0 ?_|refine aN1 ?_|refine aN0 ?_|refine aD1 ?_|refine aD0 ?_|refine nE_ (fun hq=>?_) (fun hq=>?_)|refine nN_ (fun hq=>?_) (fun hq=>?_)|refine nD_ (fun hq=>?_) (fun hq=>?_)|refine rb1 ?_|refine rb0 ?_|refine rbx ?_|refine rix ?_|(refine And.intro (by first|exact qA _|exact qw _|(omega;done)|fail) ?_)|refine aS ?_|fail)
     exact ⟨i+1,⟨h,hf⟩,by omega,by repeat' (first|exact trivial|exact LeV.same _|exact LeB.same _|exact rfl|exact fun _ _ _=>trivial|exact lI|exact LeV.nil _ _ _|exact lB|refine qq ?_|refine qo ?_|refine And.intro ?_ ?_)⟩
    ·rw [decide_eq_false c1,Bool.false_and] at hf
     have hge:k≥IntKind.wrap .i64 (1 * 2^(min w.toNat (IntKind.bits .i64))):=by rw [hs];omega
     rw [← hf,Bool.false_and]
     repeat' ((conv=>whnf);first|exact trivial|(refine nv_ (I k) (by first|exact hki|fail) ?_)|(refine nv_ (I w) (by first|exact hwi|fail) ?_)|refine pq c0 ?_|refine pt hge ?_|refine nT_ ?_|refine aE1 ?_|refine aE0 ?_|refine aN1 ?_|refine aN0 ?_|refine aD1 ?_|refine aD0 ?_|refine nE_ (fun hq=>?_) (fun hq=>?_)|refine nN_ (fun hq=>?_) (fun hq=>?_)|refine nD_ (fun hq=>?_) (fun hq=>?_)|refine rb1 ?_|refine rb0 ?_|refine rbx ?_|refine rix ?_|(refine And.intro (by first|exact qA _|exact qw _|(omega;done)|fail) ?_)|refine aS ?_|fail)
  ·have e1:rL e.key v.ws=true:=by
    rw [← hf,List.drop_eq_nil_of_le h,List.drop_eq_nil_of_le (by omega)];rfl
   repeat' ((conv=>whnf);first|exact trivial|refine nT_ ?_|refine aE1 ?_|refine aE0 ?_|refine aN1 ?_|refine aN0 ?_|refine aD1 ?_|refine aD0 ?_|refine nE_ (fun hq=>?_) (fun hq=>?_)|refine nN_ (fun hq=>?_) (fun hq=>?_)|refine nD_ (fun hq=>?_) (fun hq=>?_)|refine rb1 ?_|refine rb0 ?_|refine rbx ?_|refine rix ?_|(refine And.intro (by first|exact qA _|exact qw _|fail) ?_)|refine aS ?_|fail)
   exact ⟨(),e1,by repeat' (first|exact trivial|exact LeV.same _|exact LeB.same _|exact rfl|exact fun _ _ _=>trivial|exact lI|exact LeV.nil _ _ _|exact lB|refine qq ?_|refine qo ?_|refine And.intro ?_ ?_)⟩
 rintro - hf
 rw [hf,Bool.true_and]
 unfold yF
 have hhas:=u4 before 63 (.cptr (qu e) 0) (fun x=>decide (x.var=e.var)&&decide (x.n=e.n)) hb fun i h=>yr before[i] e
 generalize (before.any fun x=>decide (x.var=e.var)&&decide (x.n=e.n))=b at *
 by_cases f2:v.fam=2
 ·rw [if_pos f2]
  by_cases hz:e.n=0
  ·rw [decide_eq_true hz]
   repeat' ((conv=>whnf);first|exact trivial|refine py f2 ?_|refine py hz ?_|refine nT_ ?_|refine aE1 ?_|refine aE0 ?_|refine aN1 ?_|refine aN0 ?_|refine aD1 ?_|refine aD0 ?_|refine nE_ (fun hq=>?_) (fun hq=>?_)|refine nN_ (fun hq=>?_) (fun hq=>?_)|refine nD_ (fun hq=>?_) (fun hq=>?_)|refine rb1 ?_|refine rb0 ?_|refine rbx ?_|refine rix ?_|(refine And.intro (by first|exact qA _|exact qw _|fail) ?_)|refine aS ?_|fail)
  ·rw [decide_eq_false hz]
   repeat' ((conv=>whnf);first|exact trivial|refine py f2 ?_|refine px hz ?_|refine nT_ ?_|refine aE1 ?_|refine aE0 ?_|refine aN1 ?_|refine aN0 ?_|refine aD1 ?_|refine aD0 ?_|refine nE_ (fun hq=>?_) (fun hq=>?_)|refine nN_ (fun hq=>?_) (fun hq=>?_)|refine nD_ (fun hq=>?_) (fun hq=>?_)|refine rb1 ?_|refine rb0 ?_|refine rbx ?_|refine rix ?_|(refine And.intro (by first|exact qA _|exact qw _|fail) ?_)|refine aS ?_|fail)
 rw [if_neg f2]
 by_cases f3:v.fam=3
 ·rw [if_pos f3]
  by_cases c1:e.n≥v.n
  ·rw [show decide (v.n≤e.n)=true by simpa using c1,Bool.true_and]
   by_cases c2:e.n≤v.m
   ·rw [decide_eq_true c2,Bool.true_and]
    repeat' ((conv=>whnf);first|exact trivial|refine px f2 ?_|refine py f3 ?_|refine pt c1 ?_|refine pt c2 ?_|refine qk _ (hhas) ?_|refine nT_ ?_|refine aE1 ?_|refine aE0 ?_|refine aN1 ?_|refine aN0 ?_|refine aD1 ?_|refine aD0 ?_|refine nE_ (fun hq=>?_) (fun hq=>?_)|refine nN_ (fun hq=>?_) (fun hq=>?_)|refine nD_ (fun hq=>?_) (fun hq=>?_)|refine rb1 ?_|refine rb0 ?_|refine rbx ?_|refine rix ?_|(refine And.intro (by first|exact qA _|exact qw _|fail) ?_)|refine aS ?_|fail)
   ·rw [decide_eq_false c2,Bool.false_and]
    repeat' ((conv=>whnf);first|exact trivial|refine px f2 ?_|refine py f3 ?_|refine pt c1 ?_|refine pq c2 ?_|refine nT_ ?_|refine aE1 ?_|refine aE0 ?_|refine aN1 ?_|refine aN0 ?_|refine aD1 ?_|refine aD0 ?_|refine nE_ (fun hq=>?_) (fun hq=>?_)|refine nN_ (fun hq=>?_) (fun hq=>?_)|refine nD_ (fun hq=>?_) (fun hq=>?_)|refine rb1 ?_|refine rb0 ?_|refine rbx ?_|refine rix ?_|(refine And.intro (by first|exact qA _|exact qw _|fail) ?_)|refine aS ?_|fail)
  ·rw [show decide (v.n≤e.n)=false by simp;omega,Bool.false_and,Bool.false_and]
   repeat' ((conv=>whnf);first|exact trivial|refine px f2 ?_|refine py f3 ?_|refine pq c1 ?_|refine nT_ ?_|refine aE1 ?_|refine aE0 ?_|refine aN1 ?_|refine aN0 ?_|refine aD1 ?_|refine aD0 ?_|refine nE_ (fun hq=>?_) (fun hq=>?_)|refine nN_ (fun hq=>?_) (fun hq=>?_)|refine nD_ (fun hq=>?_) (fun hq=>?_)|refine rb1 ?_|refine rb0 ?_|refine rbx ?_|refine rix ?_|(refine And.intro (by first|exact qA _|exact qw _|fail) ?_)|refine aS ?_|fail)
 rw [if_neg f3]
 by_cases f4:v.fam=4
 ·rw [if_pos f4]
  by_cases c1:v.n=0
  ·rw [decide_eq_true c1,Bool.true_or]
   repeat' ((conv=>whnf);first|exact trivial|refine px f2 ?_|refine px f3 ?_|refine py f4 ?_|refine py c1 ?_|refine nT_ ?_|refine aE1 ?_|refine aE0 ?_|refine aN1 ?_|refine aN0 ?_|refine aD1 ?_|refine aD0 ?_|refine nE_ (fun hq=>?_) (fun hq=>?_)|refine nN_ (fun hq=>?_) (fun hq=>?_)|refine nD_ (fun hq=>?_) (fun hq=>?_)|refine rb1 ?_|refine rb0 ?_|refine rbx ?_|refine rix ?_|(refine And.intro (by first|exact qA _|exact qw _|fail) ?_)|refine aS ?_|fail)
  ·rw [decide_eq_false c1,Bool.false_or]
   by_cases c2:e.n≤v.n
   ·rw [decide_eq_true c2]
    repeat' ((conv=>whnf);first|exact trivial|refine px f2 ?_|refine px f3 ?_|refine py f4 ?_|refine px c1 ?_|refine pt c2 ?_|refine nT_ ?_|refine aE1 ?_|refine aE0 ?_|refine aN1 ?_|refine aN0 ?_|refine aD1 ?_|refine aD0 ?_|refine nE_ (fun hq=>?_) (fun hq=>?_)|refine nN_ (fun hq=>?_) (fun hq=>?_)|refine nD_ (fun hq=>?_) (fun hq=>?_)|refine rb1 ?_|refine rb0 ?_|refine rbx ?_|refine rix ?_|(refine And.intro (by first|exact qA _|exact qw _|fail) ?_)|refine aS ?_|fail)
   ·rw [decide_eq_false c2]
    repeat' ((conv=>whnf);first|exact trivial|refine px f2 ?_|refine px f3 ?_|refine py f4 ?_|refine px c1 ?_|refine pq c2 ?_|refine nT_ ?_|refine aE1 ?_|refine aE0 ?_|refine aN1 ?_|refine aN0 ?_|refine aD1 ?_|refine aD0 ?_|refine nE_ (fun hq=>?_) (fun hq=>?_)|refine nN_ (fun hq=>?_) (fun hq=>?_)|refine nD_ (fun hq=>?_) (fun hq=>?_)|refine rb1 ?_|refine rb0 ?_|refine rbx ?_|refine rix ?_|(refine And.intro (by first|exact qA _|exact qw _|fail) ?_)|refine aS ?_|fail)
 rw [if_neg f4]
 repeat' ((conv=>whnf);first|exact trivial|refine px f2 ?_|refine px f3 ?_|refine px f4 ?_|refine nT_ ?_|refine aE1 ?_|refine aE0 ?_|refine aN1 ?_|refine aN0 ?_|refine aD1 ?_|refine aD0 ?_|refine nE_ (fun hq=>?_) (fun hq=>?_)|refine nN_ (fun hq=>?_) (fun hq=>?_)|refine nD_ (fun hq=>?_) (fun hq=>?_)|refine rb1 ?_|refine rb0 ?_|refine rbx ?_|refine rix ?_|(refine And.intro (by first|exact qA _|exact qw _|fail) ?_)|refine aS ?_|fail)
end Go.ST
end
section
end
section
namespace Go.ST
open Go Go.DL Go.MM Go.Proofs
open Go.TY hiding Fd
theorem wY (vars:List RV) (name:ByteArray):(qZ (tu name) vars= -1∧varOf vars name=none)∨ ∃(i:Nat) (h:i<vars.length),qZ (tu name) vars=i∧varOf vars name=some vars[i]:=sL (tu name) vars
theorem vV {vars:List RV} {st:List RE} {i:Nat} (h:i<st.length):uz vars (st.take i) (st.drop i)=if uy vars (st.take i) st[i]=0 then uz vars (st.take (i+1)) (st.drop (i+1)) else uy vars (st.take i) st[i]:=by
 rw [List.drop_eq_getElem_cons h,List.take_succ_eq_append_getElem h];rfl
theorem vE {st:List RE} {i:Nat} (h:i<st.length):uu (st.take i) st[i]=(decide (0<i)&&decide (qB (st[i - 1]'(by omega)) st[i]≠ -1)):=by
 unfold uu
 cases i with
 |zero=>simp
 |succ i=>
  have:(st.take (i+1)).getLast? =some (st[i]'(by omega)):=by rw [List.take_succ_eq_append_getElem (by omega),List.getLast?_append];simp
  rw [this]
  simp
theorem tz {st:List RE} {i:Nat}:T.slice 4 (((st.map qx).take i).drop 0)=esT (st.take i):=by rw [List.drop_zero, ←List.map_take]
end Go.ST
end
section
namespace Go.ST
open Go Go.DL Go.MM Go.Proofs
open Go.TY hiding Fd
def sr (s:ByteArray) (n:Int):List (ByteArray×Int)→List (ByteArray×Int)
 |[]=>[(s,n)]
 |x::xs=>if x.1=s then (s,n)::xs else x::sr s n xs
def r8 (m:List (ByteArray×Int)) (s:ByteArray):Int:=((m.find? fun p=>decide (p.1=s)).map (·.2)).getD 0
def esC (m:List (ByteArray×Int)):List (T×T):=m.map fun p=>(T.str p.1,I p.2)
theorem yw (a b:ByteArray):(a==b)=decide (a=b):=by
 obtain ⟨a⟩:=a
 obtain ⟨b⟩:=b
 by_cases h:a=b
 ·subst h
  rw [decide_eq_true rfl]
  show (a==a)=true
  simp
 ·rw [decide_eq_false (fun e=>h (ByteArray.mk.inj e))]
  show (a==b)=false
  exact beq_false_of_ne h
theorem xH (a b:ByteArray):eqL (T.str a).cells (T.str b).cells=decide (a=b):=by
 show ((a==b)&&true)=_
 rw [Bool.and_true,yw]
theorem wq (s:ByteArray) (n:Int): ∀m:List (ByteArray×Int),bp (.str s) (I n) (esC m)=esC (sr s n m)
 |[]=>rfl
 |x::xs=>by
  have ih:=wq s n xs
  show cond (eqL (T.str s).cells (T.str x.1).cells) _ _=esC (sr s n (x::xs))
  rw [xH]
  unfold sr
  by_cases h:x.1=s
  ·rw [decide_eq_true h.symm,if_pos h];rfl
  ·rw [decide_eq_false (fun e=>h e.symm),if_neg h,cond_false]
   show (T.str x.1,I x.2)::bp (.str s) (I n) (esC xs)=_
   rw [ih];rfl
theorem yN (s:ByteArray) (m:List (ByteArray×Int)):mf (I 0) false (dJ (T.str s).cells (esC m))=I (r8 m s):=by
 have key:dJ (T.str s).cells (esC m)=((m.find? fun p=>decide (p.1=s)).map (·.2)).map I:=by
  induction m with
  |nil=>rfl
  |cons x xs ih=>
   show cond (eqL (T.str s).cells (T.str x.1).cells) (some (I x.2)) (dJ (T.str s).cells (esC xs))=_
   rw [xH,ih,List.find?_cons]
   by_cases h:x.1=s
   ·rw [decide_eq_true h.symm,decide_eq_true h];rfl
   ·rw [decide_eq_false (fun e=>h e.symm),decide_eq_false h];rfl
 rw [key]
 unfold r8
 cases (m.find? fun p=>decide (p.1=s)) <;> rfl
theorem wm (s t:ByteArray) (n:Int) (m:List (ByteArray×Int)):r8 (sr s n m) t=if s=t then n else r8 m t:=by
 unfold r8
 induction m with
 |nil=>unfold sr;by_cases h:s=t <;> simp [h]
 |cons x xs ih=>
  unfold sr
  by_cases hx:x.1=s
  ·rw [if_pos hx,List.find?_cons,List.find?_cons]
   by_cases h:s=t
   ·simp [h]
   ·rw [decide_eq_false h,decide_eq_false (fun e=>h (hx.symm.trans e)),if_neg h]
  ·rw [if_neg hx,List.find?_cons,List.find?_cons]
   by_cases h:x.1=t
   ·rw [decide_eq_true h]
    have: ¬s=t:=fun e=>hx (h.trans e.symm)
    rw [if_neg this]
   ·rw [decide_eq_false h]
    exact ih
def sI (st:List RE):List (ByteArray×Int):=st.foldl (fun m e=>sr e.var (r8 m e.var+1) m) []
theorem uc {st:List RE} {i:Nat} (h:i<st.length):sI (st.take (i+1))=sr st[i].var (r8 (sI (st.take i)) st[i].var+1) (sI (st.take i)):=by
 unfold sI
 rw [List.take_succ_eq_append_getElem h,List.foldl_append];rfl
theorem ua (st:List RE) (v:ByteArray): ∀i,i≤st.length→r8 (sI (st.take i)) v=qM (st.take i) v:=by
 intro i
 induction i with
 |zero=>intro _;rfl
 |succ i ih=>
  intro h
  rw [uc h,wm,uX h]
  by_cases hv:st[i].var=v
  ·subst hv
   rw [if_pos rfl,if_pos rfl,ih (by omega)];rfl
  ·rw [if_neg hv,if_neg hv,ih (by omega)];rfl
theorem yL {ks:List Nat} {bx:Nat→Option BX} {ag:Bool} {sh:List Sh} {es es':List (T×T)} (h:es=es'):LeB ks bx (.m ag sh es none) (some (.m ag sh es' none)):=by rw [h];exact .same _
theorem yo (vars:List RV) (hvl:vars.length<2^60) (hv: ∀v∈vars,VOk v) (st:List RE) (hl:st.length<2^60) (hk: ∀e∈st,kOk e):DCalls Try.prog 15 [vsT vars,esT st] (I (wN vars st)):=by
 refine pN (rs:=[.tmp 4]) mixed Try.func15 l15 rfl rfl rfl (r:=[I _]) (nlZ rfl) ?_
 repeat' ((conv=>whnf);first|exact trivial|refine nT_ ?_|refine aE1 ?_|refine aE0 ?_|refine aN1 ?_|refine aN0 ?_|refine aD1 ?_|refine aD0 ?_|refine nE_ (fun hq=>?_) (fun hq=>?_)|refine nN_ (fun hq=>?_) (fun hq=>?_)|refine nD_ (fun hq=>?_) (fun hq=>?_)|refine rb1 ?_|refine rb0 ?_|refine rbx ?_|refine rix ?_|refine aS ?_|fail)
 refine qc (α:=Nat) (fun i=>{sl:=[(0,.t (vsT vars)),(1,.t (esT st)),(5,.mp 9),(10,.t (esT st)),(11,.t (I st.length)),(12,.t (I i))],bx:=[(9,.m false [.str] (esC (sI (st.take i))) none)]})
  (fun i=>i≤st.length∧uz vars (st.take i) (st.drop i)=wN vars st) (fun i=>st.length - i) 0 ⟨by omega,rfl⟩ ?_ ?_
 ·repeat' (first|(exact leI (by simp))|exact trivial|exact LeV.same _|exact LeB.same _|exact rfl|exact fun _ _ _=>trivial|exact lI|exact LeV.nil _ _ _|exact lB|refine qq ?_|refine qo ?_|refine And.intro ?_ ?_)
 rintro i ⟨hi,hc⟩
 rcases Nat.lt_or_ge i st.length with h|h
 ·have hlt:(i:Int)<(st.length:Int):=by omega
  rw [vV h] at hc
  have hV:=wG vars st[i] hvl
  have hkE:=hk st[i] (List.getElem_mem h)
  have hlast:=vE h
  have hck:uy vars (st.take i) st[i]=match varOf vars st[i].var with
   |none=>4
   |some v=>if tF v st[i] (st.take i)=false then 1 else if uu (st.take i) st[i]=true then 10 else if 100≤qM (st.take i) st[i].var then 2 else 0:=rfl
  rcases wY vars st[i].var with ⟨hix,hvo⟩|⟨k,hkl,hix,hvo⟩
  ·rw [hix] at hV
   rw [hvo] at hck
   dsimp only at hck
   rw [hck,if_neg (by decide)] at hc
   rw [← hc]
   repeat' ((conv=>whnf);first|exact trivial|refine pt hlt ?_|(refine nv_ (.agg (qu st[i])) (by first|exact qU h|fail) ?_)|refine qk _ (hV) ?_|refine nT_ ?_|refine aE1 ?_|refine aE0 ?_|refine aN1 ?_|refine aN0 ?_|refine aD1 ?_|refine aD0 ?_|refine nE_ (fun hq=>?_) (fun hq=>?_)|refine nN_ (fun hq=>?_) (fun hq=>?_)|refine nD_ (fun hq=>?_) (fun hq=>?_)|refine rb1 ?_|refine rb0 ?_|refine rbx ?_|refine rix ?_|(refine And.intro (by first|exact qw _|fail) ?_)|refine aS ?_|fail)
  ·rw [hix] at hV
   rw [hvo] at hck
   dsimp only at hck
   have hF:=zl vars[k] (hv _ (List.getElem_mem hkl)) st[i] hkE (st.take i) (by rw [List.length_take];omega)
   have hge0: ¬((k:Nat):Int)<0:=by omega
   cases hf:tF vars[k] st[i] (st.take i) with
   |false=>
    rw [hf] at hF
    rw [if_pos hf] at hck
    rw [hck,if_neg (by decide)] at hc
    rw [← hc]
    repeat' ((conv=>whnf);first|exact trivial|refine pt hlt ?_|(refine nv_ (.agg (qu st[i])) (by first|exact qU h|fail) ?_)|refine qk _ (hV) ?_|refine pq hge0 ?_|(refine nv_ (.agg (q7 vars[k])) (by first|exact s4 hkl|fail) ?_)|(refine nv_ (esT (st.take i)) (by first|exact tz|fail) ?_)|refine qk _ (hF) ?_|refine nT_ ?_|refine aE1 ?_|refine aE0 ?_|refine aN1 ?_|refine aN0 ?_|refine aD1 ?_|refine aD0 ?_|refine nE_ (fun hq=>?_) (fun hq=>?_)|refine nN_ (fun hq=>?_) (fun hq=>?_)|refine nD_ (fun hq=>?_) (fun hq=>?_)|refine rb1 ?_|refine rb0 ?_|refine rbx ?_|refine rix ?_|(refine And.intro (by first|exact qw _|fail) ?_)|refine aS ?_|fail)
   |true=>
    rw [hf] at hF
    rw [if_neg (show ¬tF vars[k] st[i] (st.take i)=false by simp [hf])] at hck
    have hlk:=yN st[i].var (sI (st.take i))
    rw [ua st _ i hi] at hlk
    have hcl:=vW (st:=st.take i) (v:=st[i].var)
    rw [List.length_take] at hcl
    have hpt:=wq st[i].var (((qM (st.take i) st[i].var:Nat):Int)+1) (sI (st.take i))
    have hnx:=uc h
    rw [ua st _ i hi] at hnx
    rw [← hnx] at hpt
    have ew1:IntKind.wrap .i64 (((qM (st.take i) st[i].var:Nat):Int)+1)=((qM (st.take i) st[i].var:Nat):Int)+1:=by rw [lS] <;> omega
    rw [← ew1] at hpt
    by_cases c0:0<i
    ·have hi0:(i:Int)>0:=by omega
     have hp:i - 1<st.length:=by omega
     have ew:IntKind.wrap .i64 ((i:Int) - 1)=((i - 1:Nat):Int):=by rw [lS] <;> omega
     have hC:=rB (st[i - 1]'hp) st[i] (hk _ (List.getElem_mem hp)) hkE
     have hr:=qz.r (st[i - 1]'hp) st[i]
     rw [decide_eq_true c0,Bool.true_and] at hlast
     generalize hce:qB (st[i - 1]'hp) st[i]=c at *
     by_cases c1:c= -1
     ·rw [show decide (c≠ -1)=false by simp [c1]] at hlast
      have hge: ¬c≥0:=by omega
      rw [if_neg (by simp [hlast])] at hck
      by_cases c2:100≤qM (st.take i) st[i].var
      ·rw [if_pos c2] at hck
       rw [hck,if_neg (by decide)] at hc
       have hge2:((qM (st.take i) st[i].var:Nat):Int)≥100:=by omega
       rw [← hc]
       repeat' ((conv=>whnf);first|exact trivial|refine pt hlt ?_|refine pt hi0 ?_|(refine nv_ (.agg (qu st[i])) (by first|exact qU h|fail) ?_)|(refine nv_ (.agg (qu (st[i - 1]'hp))) (by first|((rw [ew];exact qU hp);done)|fail) ?_)|refine qk _ (hV) ?_|refine pq hge0 ?_|(refine nv_ (.agg (q7 vars[k])) (by first|exact s4 hkl|fail) ?_)|(refine nv_ (esT (st.take i)) (by first|exact tz|fail) ?_)|refine qk _ (hF) ?_|refine qk _ (hC) ?_|refine pq hge ?_|(refine nv_ (I (qM (st.take i) st[i].var:Nat)) (by first|exact hlk|fail) ?_)|refine pt hge2 ?_|refine nT_ ?_|refine aE1 ?_|refine aE0 ?_|refine aN1 ?_|refine aN0 ?_|refine aD1 ?_|refine aD0 ?_|refine nE_ (fun hq=>?_) (fun hq=>?_)|refine nN_ (fun hq=>?_) (fun hq=>?_)|refine nD_ (fun hq=>?_) (fun hq=>?_)|refine rb1 ?_|refine rb0 ?_|refine rbx ?_|refine rix ?_|(refine And.intro (by first|exact qw _|exact ⟨rfl,trivial,trivial⟩|exact ⟨rfl,rfl,trivial⟩|exact ⟨rfl,trivial⟩|(omega;done)|((rw [ew];omega);done)|fail) ?_)|refine aS ?_|fail)
      ·rw [if_neg c2] at hck
       rw [hck,if_pos rfl] at hc
       have hge2: ¬((qM (st.take i) st[i].var:Nat):Int)≥100:=by omega
       repeat' ((conv=>whnf);first|exact trivial|refine pt hlt ?_|refine pt hi0 ?_|(refine nv_ (.agg (qu st[i])) (by first|exact qU h|fail) ?_)|(refine nv_ (.agg (qu (st[i - 1]'hp))) (by first|((rw [ew];exact qU hp);done)|fail) ?_)|refine qk _ (hV) ?_|refine pq hge0 ?_|(refine nv_ (.agg (q7 vars[k])) (by first|exact s4 hkl|fail) ?_)|(refine nv_ (esT (st.take i)) (by first|exact tz|fail) ?_)|refine qk _ (hF) ?_|refine qk _ (hC) ?_|refine pq hge ?_|(refine nv_ (I (qM (st.take i) st[i].var:Nat)) (by first|exact hlk|fail) ?_)|refine pq hge2 ?_|refine nT_ ?_|refine aE1 ?_|refine aE0 ?_|refine aN1 ?_|refine aN0 ?_|refine aD1 ?_|refine aD0 ?_|refine nE_ (fun hq=>?_) (fun hq=>?_)|refine nN_ (fun hq=>?_) (fun hq=>?_)|refine nD_ (fun hq=>?_) (fun hq=>?_)|refine rb1 ?_|refine rb0 ?_|refine rbx ?_|refine rix ?_|(refine And.intro (by first|exact qw _|exact ⟨rfl,trivial,trivial⟩|exact ⟨rfl,rfl,trivial⟩|exact ⟨rfl,trivial⟩|(omega;done)|((rw [ew];omega);done)|fail) ?_)|refine aS ?_|fail)
       exact ⟨i+1,⟨h,hc⟩,by omega,by repeat' (first|(exact yL hpt.symm)|exact trivial|exact LeV.same _|exact LeB.same _|exact rfl|exact fun _ _ _=>trivial|exact lI|exact LeV.nil _ _ _|exact lB|refine qq ?_|refine qo ?_|refine And.intro ?_ ?_)⟩
     ·rw [show decide (c≠ -1)=true by simp [c1]] at hlast
      have hge:c≥0:=by omega
      rw [if_pos hlast] at hck
      rw [hck,if_neg (by decide)] at hc
      rw [← hc]
      repeat' ((conv=>whnf);first|exact trivial|refine pt hlt ?_|refine pt hi0 ?_|(refine nv_ (.agg (qu st[i])) (by first|exact qU h|fail) ?_)|(refine nv_ (.agg (qu (st[i - 1]'hp))) (by first|((rw [ew];exact qU hp);done)|fail) ?_)|refine qk _ (hV) ?_|refine pq hge0 ?_|(refine nv_ (.agg (q7 vars[k])) (by first|exact s4 hkl|fail) ?_)|(refine nv_ (esT (st.take i)) (by first|exact tz|fail) ?_)|refine qk _ (hF) ?_|refine qk _ (hC) ?_|refine pt hge ?_|refine nT_ ?_|refine aE1 ?_|refine aE0 ?_|refine aN1 ?_|refine aN0 ?_|refine aD1 ?_|refine aD0 ?_|refine nE_ (fun hq=>?_) (fun hq=>?_)|refine nN_ (fun hq=>?_) (fun hq=>?_)|refine nD_ (fun hq=>?_) (fun hq=>?_)|refine rb1 ?_|refine rb0 ?_|refine rbx ?_|refine rix ?_|(refine And.intro (by first|exact qw _|(omega;done)|((rw [ew];omega);done)|fail) ?_)|refine aS ?_|fail)
    ·have hi0: ¬(i:Int)>0:=by omega
     rw [decide_eq_false c0,Bool.false_and] at hlast
     rw [if_neg (by simp [hlast])] at hck
     have c2: ¬100≤qM (st.take i) st[i].var:=by omega
     rw [if_neg c2] at hck
     rw [hck,if_pos rfl] at hc
     have hge2: ¬((qM (st.take i) st[i].var:Nat):Int)≥100:=by omega
     repeat' ((conv=>whnf);first|exact trivial|refine pt hlt ?_|refine pq hi0 ?_|(refine nv_ (.agg (qu st[i])) (by first|exact qU h|fail) ?_)|refine qk _ (hV) ?_|refine pq hge0 ?_|(refine nv_ (.agg (q7 vars[k])) (by first|exact s4 hkl|fail) ?_)|(refine nv_ (esT (st.take i)) (by first|exact tz|fail) ?_)|refine qk _ (hF) ?_|(refine nv_ (I (qM (st.take i) st[i].var:Nat)) (by first|exact hlk|fail) ?_)|refine pq hge2 ?_|refine nT_ ?_|refine aE1 ?_|refine aE0 ?_|refine aN1 ?_|refine aN0 ?_|refine aD1 ?_|refine aD0 ?_|refine nE_ (fun hq=>?_) (fun hq=>?_)|refine nN_ (fun hq=>?_) (fun hq=>?_)|refine nD_ (fun hq=>?_) (fun hq=>?_)|refine rb1 ?_|refine rb0 ?_|refine rbx ?_|refine rix ?_|(refine And.intro (by first|exact qw _|exact ⟨rfl,trivial,trivial⟩|exact ⟨rfl,rfl,trivial⟩|exact ⟨rfl,trivial⟩|fail) ?_)|refine aS ?_|fail)
     exact ⟨i+1,⟨h,hc⟩,by omega,by repeat' (first|(exact yL hpt.symm)|exact trivial|exact LeV.same _|exact LeB.same _|exact rfl|exact fun _ _ _=>trivial|exact lI|exact LeV.nil _ _ _|exact lB|refine qq ?_|refine qo ?_|refine And.intro ?_ ?_)⟩
 ·have hlt: ¬(i:Int)<(st.length:Int):=by omega
  obtain rfl:i=st.length:=by omega
  rw [← hc,List.drop_length]
  repeat' ((conv=>whnf);first|exact trivial|refine pq hlt ?_|refine nT_ ?_|refine aE1 ?_|refine aE0 ?_|refine aN1 ?_|refine aN0 ?_|refine aD1 ?_|refine aD0 ?_|refine nE_ (fun hq=>?_) (fun hq=>?_)|refine nN_ (fun hq=>?_) (fun hq=>?_)|refine nD_ (fun hq=>?_) (fun hq=>?_)|refine rb1 ?_|refine rb0 ?_|refine rbx ?_|refine rix ?_|refine aS ?_|fail)
end Go.ST
end
section
namespace Go.ST
open Go Go.DL Go.MM Go.Proofs
open Go.TY hiding Fd
theorem yQ {i j:Nat} (h:i+j<2^61):IntKind.wrap .i64 ((IntKind.wrap .u64 (IntKind.wrap .i64 ((i:Int)+(j:Int)))).fdiv (2^(min (1:Int).toNat (IntKind.bits .u64))))=(((i+j) / 2:Nat):Int):=by
 rw [lS (n:=(i:Int)+j) (by omega) (by omega)]
 have u1: ∀n:Int,0≤n→n<18446744073709551616→IntKind.wrap .u64 n=n:=fun n h0 h1=>by
  unfold IntKind.wrap
  simp [IntKind.bits,IntKind.signed]
  omega
 rw [u1 ((i:Int)+j) (by omega) (by omega)]
 have e2:((i:Int)+(j:Int)).fdiv (2^(min (1:Int).toNat (IntKind.bits .u64)))=(((i+j) / 2:Nat):Int):=by
  show ((i:Int)+(j:Int)).fdiv 2=_
  rw [Int.fdiv_eq_ediv_of_nonneg _ (by omega)];omega
 rw [e2,lS (by omega) (by omega)]
def isE (st:List RE) (e:RE):Bool:=(qK st e.var e.key).isSome
theorem xV {st:List RE} (hs:qH st) {e:RE} (h:qC st e<st.length):isE st e=decide (qB st[qC st e] e=0):=by
 unfold isE
 rw [r7 hs,ggZ h]
 dsimp only
 by_cases h0:qB st[qC st e] e=0 <;> simp [h0]
theorem vg {st:List RE} (hs:qH st) {e:RE} (h: ¬qC st e<st.length):isE st e=false:=by
 unfold isE
 rw [r7 hs,List.getElem?_eq_none (by omega)]
 rfl
theorem xB (st:List RE) (hs:qH st) (hl:st.length<2^40) (hk: ∀x∈st,kOk x) (e:RE) (he:kOk e):
  DCalls Try.prog 73 [esT st,qx e,.clos 35 []] (.tup [I (qC st e),.bool (isE st e)]):=by
 refine pN (rs:=[.tmp 6,.tmp 7]) mixed Try.func73 l73 rfl rfl rfl (r:=[I _,.bool _]) (nlZ rfl) ?_
 have hple:=tM st e
 repeat' ((conv=>whnf);first|exact trivial|refine nT_ ?_|refine aE1 ?_|refine aE0 ?_|refine aN1 ?_|refine aN0 ?_|refine aD1 ?_|refine aD0 ?_|refine nE_ (fun hq=>?_) (fun hq=>?_)|refine nN_ (fun hq=>?_) (fun hq=>?_)|refine nD_ (fun hq=>?_) (fun hq=>?_)|refine rb1 ?_|refine rb0 ?_|refine rbx ?_|refine rix ?_|(refine And.intro (by first|exact qw _|fail) ?_)|refine aS ?_|fail)
 refine qc (α:=Nat×Nat) (fun p=>{sl:=[(0,.t (esT st)),(2,.t (.clos 35 [])),(4,.ptr 4 0),(8,.t (I st.length)),(9,.t (I p.1)),(10,.t (I p.2))],bx:=[(4,.d 4 (qu e))]})
  (fun p=>p.1≤qC st e∧qC st e≤p.2∧p.2≤st.length) (fun p=>p.2 - p.1) (0,st.length) ⟨Nat.zero_le _,hple,Nat.le_refl _⟩ ?_ ?_
 ·repeat' (first|(exact leI (by simp))|exact trivial|exact LeV.same _|exact LeB.same _|exact rfl|exact fun _ _ _=>trivial|exact lI|exact LeV.nil _ _ _|exact lB|refine qq ?_|refine qo ?_|refine And.intro ?_ ?_)
 rintro ⟨i,j⟩ ⟨h1,h2,h3⟩
 dsimp only at h1 h2 h3
 rcases Nat.lt_or_ge i j with hij|hij
 ·have hlt:(i:Int)<(j:Int):=by omega
  have e1:=yQ (i:=i) (j:=j) (by omega)
  have h4:(i+j) / 2<st.length:=by omega
  have hC:=rB st[(i+j) / 2] e (hk _ (List.getElem_mem h4)) he
  have hp:=tN hs (e:=e) h4
  have hr:=qz.r st[(i+j) / 2] e
  generalize qB st[(i+j) / 2] e=c at *
  by_cases hc:c= -1
  ·have hc0:c<0:=by omega
   have hq:=hp.1 hc
   repeat' ((conv=>whnf);first|exact trivial|refine pt hlt ?_|(refine nv_ (.agg (qu st[(i+j) / 2])) (by first|((dsimp only;rw [e1,Int.toNat_natCast];exact qU h4);done)|fail) ?_)|refine qk _ (hC) ?_|refine pt hc0 ?_|refine nT_ ?_|refine aE1 ?_|refine aE0 ?_|refine aN1 ?_|refine aN0 ?_|refine aD1 ?_|refine aD0 ?_|refine nE_ (fun hq=>?_) (fun hq=>?_)|refine nN_ (fun hq=>?_) (fun hq=>?_)|refine nD_ (fun hq=>?_) (fun hq=>?_)|refine rb1 ?_|refine rb0 ?_|refine rbx ?_|refine rix ?_|(refine And.intro (by first|exact qw _|((dsimp only;rw [e1];simp;omega);done)|fail) ?_)|refine aS ?_|fail)
   exact ⟨((i+j) / 2+1,j),⟨hq,h2,h3⟩,by dsimp only;omega,by repeat' (first|(exact leI (by dsimp only;rw [e1,lS] <;> omega))|exact trivial|exact LeV.same _|exact LeB.same _|exact rfl|exact fun _ _ _=>trivial|exact lI|exact LeV.nil _ _ _|exact lB|refine qq ?_|refine qo ?_|refine And.intro ?_ ?_)⟩
  ·have hc0: ¬c<0:=by omega
   have hq:qC st e≤(i+j) / 2:=Nat.le_of_not_lt fun h=>hc (hp.2 h)
   repeat' ((conv=>whnf);first|exact trivial|refine pt hlt ?_|(refine nv_ (.agg (qu st[(i+j) / 2])) (by first|((dsimp only;rw [e1,Int.toNat_natCast];exact qU h4);done)|fail) ?_)|refine qk _ (hC) ?_|refine pq hc0 ?_|refine nT_ ?_|refine aE1 ?_|refine aE0 ?_|refine aN1 ?_|refine aN0 ?_|refine aD1 ?_|refine aD0 ?_|refine nE_ (fun hq=>?_) (fun hq=>?_)|refine nN_ (fun hq=>?_) (fun hq=>?_)|refine nD_ (fun hq=>?_) (fun hq=>?_)|refine rb1 ?_|refine rb0 ?_|refine rbx ?_|refine rix ?_|(refine And.intro (by first|exact qw _|((dsimp only;rw [e1];simp;omega);done)|fail) ?_)|refine aS ?_|fail)
   exact ⟨(i,(i+j) / 2),⟨h1,hq,by dsimp only;omega⟩,by dsimp only;omega,by repeat' (first|(exact leI e1.symm)|exact trivial|exact LeV.same _|exact LeB.same _|exact rfl|exact fun _ _ _=>trivial|exact lI|exact LeV.nil _ _ _|exact lB|refine qq ?_|refine qo ?_|refine And.intro ?_ ?_)⟩
 ·have hlt: ¬(i:Int)<(j:Int):=by omega
  obtain rfl:i=qC st e:=by omega
  rcases Nat.lt_or_ge (qC st e) st.length with h4|h4
  ·have hlt2:((qC st e:Nat):Int)<(st.length:Int):=by omega
   have hC:=rB st[qC st e] e (hk _ (List.getElem_mem h4)) he
   rw [xV hs h4]
   generalize qB st[qC st e] e=c at *
   by_cases hc:c=0
   ·rw [decide_eq_true hc]
    repeat' ((conv=>whnf);first|exact trivial|refine pq hlt ?_|refine pt hlt2 ?_|(refine nv_ (.agg (qu st[qC st e])) (by first|exact qU h4|fail) ?_)|refine qk _ (hC) ?_|refine py hc ?_|refine nT_ ?_|refine aE1 ?_|refine aE0 ?_|refine aN1 ?_|refine aN0 ?_|refine aD1 ?_|refine aD0 ?_|refine nE_ (fun hq=>?_) (fun hq=>?_)|refine nN_ (fun hq=>?_) (fun hq=>?_)|refine nD_ (fun hq=>?_) (fun hq=>?_)|refine rb1 ?_|refine rb0 ?_|refine rbx ?_|refine rix ?_|(refine And.intro (by first|exact qw _|fail) ?_)|refine aS ?_|fail)
   ·rw [decide_eq_false hc]
    repeat' ((conv=>whnf);first|exact trivial|refine pq hlt ?_|refine pt hlt2 ?_|(refine nv_ (.agg (qu st[qC st e])) (by first|exact qU h4|fail) ?_)|refine qk _ (hC) ?_|refine px hc ?_|refine nT_ ?_|refine aE1 ?_|refine aE0 ?_|refine aN1 ?_|refine aN0 ?_|refine aD1 ?_|refine aD0 ?_|refine nE_ (fun hq=>?_) (fun hq=>?_)|refine nN_ (fun hq=>?_) (fun hq=>?_)|refine nD_ (fun hq=>?_) (fun hq=>?_)|refine rb1 ?_|refine rb0 ?_|refine rbx ?_|refine rix ?_|(refine And.intro (by first|exact qw _|fail) ?_)|refine aS ?_|fail)
  ·have hlt2: ¬((qC st e:Nat):Int)<(st.length:Int):=by omega
   rw [vg hs (by omega)]
   repeat' ((conv=>whnf);first|exact trivial|refine pq hlt ?_|refine pq hlt2 ?_|refine nT_ ?_|refine aE1 ?_|refine aE0 ?_|refine aN1 ?_|refine aN0 ?_|refine aD1 ?_|refine aD0 ?_|refine nE_ (fun hq=>?_) (fun hq=>?_)|refine nN_ (fun hq=>?_) (fun hq=>?_)|refine nD_ (fun hq=>?_) (fun hq=>?_)|refine rb1 ?_|refine rb0 ?_|refine rbx ?_|refine rix ?_|(refine And.intro (by first|exact qw _|fail) ?_)|refine aS ?_|fail)
theorem vp (st:List RE) (hs:qH st) (hl:st.length<2^40) (hk: ∀x∈st,kOk x) (e:RE) (he:kOk e):
  DCalls Try.prog 48 [esT st,qx e,.clos 35 []] (.tup [I (qC st e),.bool (isE st e)]):=by
 refine pN (rs:=[.tmp 6,.tmp 7]) mixed Try.func48 l48 rfl rfl rfl (r:=[I _,.bool _]) (nlZ rfl) ?_
 have h:=xB st hs hl hk e he
 repeat' ((conv=>whnf);first|exact trivial|refine qk _ (h) ?_|refine nT_ ?_|refine aE1 ?_|refine aE0 ?_|refine aN1 ?_|refine aN0 ?_|refine aD1 ?_|refine aD0 ?_|refine nE_ (fun hq=>?_) (fun hq=>?_)|refine nN_ (fun hq=>?_) (fun hq=>?_)|refine nD_ (fun hq=>?_) (fun hq=>?_)|refine rb1 ?_|refine rb0 ?_|refine rbx ?_|refine rix ?_|(refine And.intro (by first|exact qw _|fail) ?_)|refine aS ?_|fail)
abbrev zE:T:=.agg [.str ⟨#[]⟩,.nil,I 0,I 0]
def zQ (o:Option RE):T:=match o with
 |some e=>.tup [qx e,.bool true]
 |none=>.tup [zE,.bool false]
theorem zf (st:List RE) (hs:qH st) (hl:st.length<2^40) (hk: ∀x∈st,kOk x) (v:ByteArray) (key:List Int) (he:key.length<2^60):
  DCalls Try.prog 23 [esT st,.str v,.slice 1 (key.map I)] (zQ (qK st v key)):=by
 have h:=vp st hs hl hk ⟨v,key,0,0⟩ he
 have hp:=r7 hs ⟨v,key,0,0⟩
 dsimp only at hp
 have hi:isE st ⟨v,key,0,0⟩=(qK st v key).isSome:=rfl
 rw [hi] at h
 cases hf:qK st v key with
 |none=>
  rw [hf] at h
  refine pN (rs:=[.cell 6 39,.tmp 7]) mixed Try.func23 l23 rfl rfl rfl (r:=[zE,.bool false]) (nlZ rfl) ?_
  repeat' ((conv=>whnf);first|exact trivial|refine qk _ (h) ?_|refine nT_ ?_|refine aE1 ?_|refine aE0 ?_|refine aN1 ?_|refine aN0 ?_|refine aD1 ?_|refine aD0 ?_|refine nE_ (fun hq=>?_) (fun hq=>?_)|refine nN_ (fun hq=>?_) (fun hq=>?_)|refine nD_ (fun hq=>?_) (fun hq=>?_)|refine rb1 ?_|refine rb0 ?_|refine rbx ?_|refine rix ?_|refine aS ?_|fail)
 |some x=>
  rw [hf] at h hp
  have hlt:qC st ⟨v,key,0,0⟩<st.length:=by
   rcases Nat.lt_or_ge (qC st ⟨v,key,0,0⟩) st.length with h4|h4
   ·exact h4
   ·rw [List.getElem?_eq_none h4] at hp;cases hp
  rw [ggZ hlt] at hp
  dsimp only at hp
  have hx:st[qC st ⟨v,key,0,0⟩]=x:=by
   split at hp
   ·exact (Option.some.inj hp).symm
   ·cases hp
  have hg:=qU hlt
  rw [hx] at hg
  refine pN (rs:=[.cell 6 39,.tmp 7]) mixed Try.func23 l23 rfl rfl rfl (r:=[qx x,.bool true]) (nlZ rfl) ?_
  generalize qC st ⟨v,key,0,0⟩=p at *
  repeat' ((conv=>whnf);first|exact trivial|refine qk _ (h) ?_|(refine nv_ (.agg (qu x)) (by first|exact hg|fail) ?_)|refine nT_ ?_|refine aE1 ?_|refine aE0 ?_|refine aN1 ?_|refine aN0 ?_|refine aD1 ?_|refine aD0 ?_|refine nE_ (fun hq=>?_) (fun hq=>?_)|refine nN_ (fun hq=>?_) (fun hq=>?_)|refine nD_ (fun hq=>?_) (fun hq=>?_)|refine rb1 ?_|refine rb0 ?_|refine rbx ?_|refine rix ?_|(refine And.intro (by first|exact qw _|((simp;omega);done)|fail) ?_)|refine aS ?_|fail)
end Go.ST
end
section
end
section
end
section
namespace Go.ST
open Go Go.DL Go.MM Go.Proofs
abbrev zeV:Value:=.agg #[.string ByteArray.empty,.slice none 0 0,.int .i64 0,.int .i64 0]
theorem rS:(Try.prog.info? 39).map (fun i=>(i.zero,i.size,i.bytes))=some (some zeV,4,56):=by kernel_rfl
theorem qG:Try.prog.underlying 28=some (.slice 39):=by kernel_rfl
abbrev qy (k:Nat):Array Value:=Builtin.zeroCells zeV.cells k
theorem uh (w:World) (ty:TypeId) (base:Option Addr) (n c:Nat) (olds:List Value) (hold:(Builtin.firstCells 4 n (.slice base n c)).run Try.prog w.drew= .ok olds.toArray w.drew) (b off m cap:Nat) (news:List Value) (hl:news.length=m * 4)
  (hc: ∀j u,news[j]? =some u→w.cell? ⟨b,off+j,none⟩=some u) (h1: ∀u∈news,u.oneCell'=true) (hg:c<n+m) (hbig:(n+m) * 56≤140737488355328):
  (Builtin.append_ #[28,28] ty #[.slice base n c,.slice (some ⟨b,off,none⟩) m cap]).run Try.prog w=
   .ok (.slice (some ⟨w.heap.size,0,none⟩) (n+m) (grownCap w (n+m) c 39)) (w.drew.alloc (.cells ((olds++news).toArray++qy (grownCap w (n+m) c 39 - (n+m))) 39)):=by
 obtain ⟨i0,hi,hz0,hz1,hz2⟩:=info_parts rS
 have hsrc:Src Try.prog i0.size 28 (.slice (some ⟨b,off,none⟩) m cap) m news w:=by
  rw [hz1]
  exact Src.ofSlice w qG ⟨b,off,none⟩ m cap news hl (fun j u hj=>by rw [Addr.add_lit];exact hc j u hj) h1
 exact run_append_grow_src w 28 28 ty 39 i0 zeV qG hi hz0 base n c olds (by rw [hz1];exact hold) _ m news hsrc hg (by omega) (by rw [hz2];exact growslice_fits hg hbig)
theorem nil_eq (w:World) (a:Option Addr) (n c n' c':Nat):(binOp .eql 28 (.slice a n c) (.slice none n' c')).run Try.prog w= .ok (.bool a.isNone) w:=Lib.run_eql_slice_nil w _ _ a n c n' c' qG
theorem u6 (b off n cap:Nat) (news:List Value) (w:World) (hn:0<n) (hl:news.length=n * 4) (hbig:n * 56≤140737488355328) (hc: ∀j u,news[j]? =some u→w.cell? ⟨b,off+j,none⟩=some u) (h1: ∀u∈news,u.oneCell'=true):
  Calls Try.prog 86 #[.slice (some ⟨b,off,none⟩) n cap] w fun e w'=> ∃G,n≤G∧G≤maxLen∧e= .returned (.slice (some ⟨w.heap.size+1,0,none⟩) n G)∧
   w'=((w.alloc (.cells #[] 39)).drew.alloc (.cells (news.toArray++qy (G - n)) 39)):=by
 have q22:=nil_eq
 have u22: ∀w,Sem.run Try.prog (underlying 28) w= .ok (TypeDesc.slice 39) w:=run_underlying qG
 have mx:=mixed
 have hrun:=fun ty=>uh (w.alloc (.cells #[] 39)) ty (some ⟨w.heap.size,0,none⟩) 0 0 [] (run_firstCells_some (P:=Try.prog) (w.alloc (.cells #[] 39)).drew 4 0 ⟨w.heap.size,0,none⟩ 0 0 [] rfl (fun j v hj=>by simp at hj)) b off n cap news hl (fun j u hj=>Lib.cell?_alloc_some _ (hc j u hj)) h1 (by omega) (by omega)
 simp only [Nat.zero_add,List.nil_append] at hrun
 have hge:=grownCap_ge (w.alloc (.cells #[] 39)) n 0 39
 have hle:=grownCap_le_maxLen (w.alloc (.cells #[] 39)) n 0 39 (by unfold maxLen;omega)
 generalize grownCap (w.alloc (.cells #[] 39)) n 0 39=G at *
 have hsz:(w.alloc (.cells #[] 39)).heap.size=w.heap.size+1:=Array.size_push _
 rw [hsz] at hrun
 go_enter Try.func86,Try.ntmps86
 go_wp2_with (at_builtin;refine Lib.wpList_append_run _ rfl _ _ _ _ rfl _ _ rfl rfl _ _ (hrun _) ?_)
 go_ret
 exact ⟨G,hge,hle,rfl,rfl⟩
theorem uA (a:Option Addr) (cap:Nat) (w:World):Calls Try.prog 86 #[.slice a 0 cap] w fun e w'=> ∃b,e= .returned (.slice b 0 0)∧(w'=w∨w'=w.alloc (.cells #[] 39)):=by
 have q22:=nil_eq
 have u22: ∀w,Sem.run Try.prog (underlying 28) w= .ok (TypeDesc.slice 39) w:=run_underlying qG
 have mx:=mixed
 obtain ⟨i0,hi,hz0,hz1,hz2⟩:=info_parts rS
 cases a with
 |none=>
  go_enter Try.func86,Try.ntmps86
  go_wp2
  go_ret
  exact ⟨_,rfl,Or.inl rfl⟩
 |some a=>
  have hrun:=fun ty=>run_append_room_src (P:=Try.prog) (w.alloc (.cells #[] 39)) 28 28 ty 39 i0 qG hi w.heap.size 0 0 0 (.slice (some a) 0 cap) 0 [] (Src.ofSlice (P:=Try.prog) (size:=i0.size) (w.alloc (.cells #[] 39)) qG a 0 cap [] (by simp) (fun j u hj=>by simp at hj) (by simp)) (by omega) (fun j hj=>by simp at hj) (fun j hj=>by simp at hj)
  go_enter Try.func86,Try.ntmps86
  go_wp2_with (at_builtin;refine Lib.wpList_append_run _ rfl _ _ _ _ rfl _ _ rfl rfl _ _ (hrun _) ?_)
  go_ret
  exact ⟨_,rfl,Or.inr rfl⟩
end Go.ST
end
section
namespace Go.ST
open Go Go.DL Go.MM Go.Proofs
theorem sj {P:Program} {ops:Array Oper} {o:Oper} {a:Act} {w:World} {K:Act→World→Prop} {Q:Exit→Act→World→Prop} {E:Prop}
  (hg:o.guard=none) (d x:Operand) (dT sT:TypeId) (hop:o.op=Op.call {callee:=Callee.builtin Builtin.copy,args:= #[d,x],argTypes:= #[dT,sT]})
  (v u:Value) (hd:a.eval d=v) (hx:a.eval x=u) {v':Value} {w':World} (hr:(Builtin.copy_ #[dT,sT] o.type #[v,u]).run P w= .ok v' w') (hK:K (a.put o.dst v') w'):
  if Region.wanted o (yielded ops a.tmps)=true then Oper.wp P o a w K Q else E:=by
 have hw:Region.wanted o (yielded ops a.tmps)=true:=by simp [Region.wanted,hg]
 rw [if_pos hw]
 unfold Oper.wp
 simp [execOp,hop,resolve,invoke,builtin,hd,hx,hr,Result.andThen]
 exact hK
theorem qS (b:Nat) (vs:List Value) (o:Nat) (w:World) (h: ∀j,j<vs.length→(w.cell? ⟨b,o+j,none⟩).isSome=true) (k:Nat) (hk:(w.cell? ⟨b,k,none⟩).isSome=true):((w.setCells b o vs).cell? ⟨b,k,none⟩).isSome=true:=by
 by_cases hin:o≤k∧k<o+vs.length
 ·have:=World.cell?_setCells_in b vs o w h (k - o) (by omega)
  rw [show o+(k - o)=k by omega] at this
  rw [this];rfl
 ·rw [World.cell?_setCells_out b vs o w ⟨b,k,none⟩ (fun _ _=>by show k<o∨o+vs.length≤k;omega)]
  exact hk
theorem szE:(Try.prog.info? 39).map (·.size)=some 4:=by
 obtain ⟨i0,hi,hz0,hz1,hz2⟩:=info_parts rS
 rw [hi];simp [hz1]
theorem yk (w:World):(Go.sizeOf 39).run Try.prog w= .ok 4 w:=by
 obtain ⟨i0,hi,hz0,hz1,hz2⟩:=info_parts rS
 simp [Go.sizeOf,typeInfo,hi,hz1]
theorem wh (b off n c i vb voff vc:Nat) (cs vs:List Value) (w:World) (hi:i<n) (hroom:n+1≤c) (hc63:c≤9223372036854775807) (hvb:vb≠b)
  (hcl:cs.length=n * 4) (hvl:vs.length=4)
  (hcs: ∀j v,cs[j]? =some v→w.cell? ⟨b,off+j,none⟩=some v) (hsp: ∀j,j<(n+1) * 4→(w.cell? ⟨b,off+j,none⟩).isSome=true) (hfz: ∀j,j<(n+1) * 4→w.frozen? ⟨b,off+j,none⟩=false)
  (hvs: ∀j v,vs[j]? =some v→w.cell? ⟨vb,voff+j,none⟩=some v) (h1c: ∀v∈cs,v.oneCell'=true) (h1v: ∀v∈vs,v.oneCell'=true)
  (tA tB:TypeId) (kA kB:Nat) (hsa:w.shape? vb=some (tA,kA)) (hsb:w.shape? b=some (tB,kB)) (hkB:kB≠0) (hfa:w.frozen? ⟨vb,voff,none⟩=false) (hfe:w.frozen? ⟨vb,kA,none⟩=false):
  Calls Try.prog 87 #[.slice (some ⟨b,off,none⟩) n c,.int .i64 i,.slice (some ⟨vb,voff,none⟩) 1 vc] w fun e w'=>
   e= .returned (.slice (some ⟨b,off,none⟩) (n+1) c)∧w'=(w.drew.setCells b (off+(i+1) * 4) (cs.drop (i * 4))).setCells b (off+i * 4) vs:=by
 have u24: ∀w,Sem.run Try.prog (underlying 28) w= .ok (TypeDesc.slice 39) w:=run_underlying qG
 have mx:=mixed
 have hz2: ¬((i:Int)=(n:Int)):=by omega
 have hsz:=szE
 have hov: ∀lb cb,(callFunc 96 #[.slice (some ⟨vb,voff,none⟩) 1 vc,.slice (some ⟨b,off+(i+1) * 4,none⟩) lb cb]).run Try.prog w= .ok (.value (.bool false)) w:=fun lb cb=>by
  rw [run_callFunc_extern Try.func96 (by kernel_rfl) (by kernel_rfl) (by kernel_rfl) (e:=Extern.SlicesOverlaps.overlaps #[28,28] #[4]) (by kernel_rfl),
   Lib.run_overlaps_apart w 28 4 39 qG 4 yk ⟨vb,voff,none⟩ ⟨b,off+(i+1) * 4,none⟩ 1 vc lb cb hvb tA tB kA kB hsa hsb hkB hfa hfe]
  rfl
 have hdl:(cs.drop (i * 4)).length=(n - i) * 4:=by rw [List.length_drop,hcl];omega
 have hcp1: ∀ty dc sc,(Builtin.copy_ #[28,28] ty #[.slice (some ⟨b,off+(i+1) * 4,none⟩) (n - i) dc,.slice (some ⟨b,off+i * 4,none⟩) (n+1 - i) sc]).run Try.prog w.drew= .ok (goInt (Nat.min (n+1 - i) (n - i))) (w.drew.setCells b (off+(i+1) * 4) (cs.drop (i * 4))):=fun ty dc sc=>
  pH w.drew _ _ ty 39 4 b (off+(i+1) * 4) (n - i) dc ⟨b,off+i * 4,none⟩ (n+1 - i) sc (cs.drop (i * 4)) qG hsz (by rw [hdl];simp only [Nat.min_def];split <;> omega)
   (fun j v hj=>by rw [Addr.add_lit,Nat.add_assoc];exact hcs (i * 4+j) v (by rwa [List.getElem?_drop] at hj))
   (fun j hj=>by rw [Nat.add_assoc];exact hsp _ (by omega)) (fun j hj=>by rw [Nat.add_assoc];exact hfz _ (by omega)) (fun v hv=>h1c v (List.mem_of_mem_drop hv))
 obtain ⟨W1,hW1⟩: ∃W1,W1=w.drew.setCells b (off+(i+1) * 4) (cs.drop (i * 4)):=⟨_,rfl⟩
 have hsp1: ∀k,k<(n+1) * 4→(W1.cell? ⟨b,off+k,none⟩).isSome=true:=fun k hk=>by
  rw [hW1]
  exact qS b _ _ _ (fun j hj=>by rw [Nat.add_assoc];exact hsp _ (by omega)) _ (hsp k hk)
 have hcp2: ∀(W:World),(∀ x,W.cell? x=W1.cell? x)→(∀ x,W.frozen? x=W1.frozen? x)→ ∀ty dc,(Builtin.copy_ #[28,28] ty #[.slice (some ⟨b,off+i * 4,none⟩) (n+1 - i) dc,.slice (some ⟨vb,voff,none⟩) 1 vc]).run Try.prog W= .ok (goInt (Nat.min 1 (n+1 - i))) (W.setCells b (off+i * 4) vs):=fun W hWc hWf ty dc=>
  pH W _ _ ty 39 4 b (off+i * 4) (n+1 - i) dc ⟨vb,voff,none⟩ 1 vc vs qG hsz (by rw [hvl];simp only [Nat.min_def];split <;> omega)
   (fun j v hj=>by
    rw [Addr.add_lit,hWc,hW1,World.cell?_setCells_out b _ _ _ _ (fun h _=>absurd h hvb)]
    exact hvs j v hj)
   (fun j hj=>by rw [hWc,Nat.add_assoc];exact hsp1 _ (by omega)) (fun j hj=>by rw [hWf,hW1,World.frozen?_setCells,Nat.add_assoc];exact hfz _ (by omega)) h1v
 rw [← hW1] at hcp1
 have hw1:IntKind.i64.wrap ((i:Int)+1)=(i:Int)+1:=by rw [IntKind.wrap_i64];omega
 have hw2:IntKind.i64.wrap ((n:Int)+1)=(n:Int)+1:=by rw [IntKind.wrap_i64];omega
 have hb1:(0:Int)≤(i:Int)+1:=by omega
 have hin:i≤n:=by omega
 have htn:((i:Int)+1).toNat=i+1:=by omega
 have htn2:((n:Int)+1).toNat=n+1:=by omega
 have hb2: ¬(c=i+1):=by omega
 have hb3:(i:Int)≤(n:Int)+1:=by omega
 have hb4: ¬(c=i):=by omega
 go_enter Try.func87,Try.ntmps87
 go_wp2_with (simp only [hov])
 go_region_law_o (refine sj rfl _ _ 28 28 rfl _ _ (by simp [Act.eval,Act.put]) (by simp [Act.eval,Act.put]) (hcp1 _ _ _) ?_)
 go_wp2_with (at_builtin;refine wpList_copy_run' _ rfl _ _ 28 28 rfl _ _ rfl rfl (hcp2 _ (fun _=>rfl) (fun _=>rfl) _ _) ?_)
 go_ret
 first|exact ⟨rfl,rfl⟩|exact ⟨rfl,by rw [hW1]⟩
theorem w6 (b off n c vb voff vc:Nat) (vs:List Value) (w:World) (hroom:n+1≤c) (hc63:c≤9223372036854775807)
  (hvl:vs.length=4) (hsp: ∀j,j<4→(w.cell? ⟨b,off+n * 4+j,none⟩).isSome=true) (hfz: ∀j,j<4→w.frozen? ⟨b,off+n * 4+j,none⟩=false)
  (hvs: ∀j v,vs[j]? =some v→w.cell? ⟨vb,voff+j,none⟩=some v) (h1v: ∀v∈vs,v.oneCell'=true):
  Calls Try.prog 87 #[.slice (some ⟨b,off,none⟩) n c,.int .i64 n,.slice (some ⟨vb,voff,none⟩) 1 vc] w fun e w'=>
   e= .returned (.slice (some ⟨b,off,none⟩) (n+1) c)∧w'=w.setCells b (off+n * 4) vs:=by
 have u24: ∀w,Sem.run Try.prog (underlying 28) w= .ok (TypeDesc.slice 39) w:=run_underlying qG
 have mx:=mixed
 obtain ⟨i0,hi,hz0,hz1,hz2⟩:=info_parts rS
 have hsrc:Src Try.prog i0.size 28 (.slice (some ⟨vb,voff,none⟩) 1 vc) 1 vs w:=by
  rw [hz1]
  exact Src.ofSlice w qG ⟨vb,voff,none⟩ 1 vc vs (by omega) (fun j u hj=>by rw [Addr.add_lit];exact hvs j u hj) h1v
 have hrun:=fun ty=>run_append_room_src w 28 28 ty 39 i0 qG hi b off n c _ 1 vs hsrc hroom (by rw [hvl,hz1];exact hsp) (by rw [hvl,hz1];exact hfz)
 rw [hz1] at hrun
 go_enter Try.func87,Try.ntmps87
 go_wp2_with (at_builtin;refine Lib.wpList_append_run _ rfl _ _ _ _ rfl _ _ rfl rfl _ _ (hrun _) ?_)
 go_ret
 exact ⟨rfl,rfl⟩
theorem ud (base:Option Addr) (n c vb voff vc:Nat) (cs vs:List Value) (w:World) (hroom:c<n+1) (hbig:(n+1) * 56≤140737488355328)
  (hvl:vs.length=4) (hold:(Builtin.firstCells 4 n (.slice base n c)).run Try.prog w.drew= .ok cs.toArray w.drew)
  (hvs: ∀j v,vs[j]? =some v→w.cell? ⟨vb,voff+j,none⟩=some v) (h1v: ∀v∈vs,v.oneCell'=true):
  Calls Try.prog 87 #[.slice base n c,.int .i64 n,.slice (some ⟨vb,voff,none⟩) 1 vc] w fun e w'=>
   e= .returned (.slice (some ⟨w.heap.size,0,none⟩) (n+1) (grownCap w (n+1) c 39))∧
   w'=w.drew.alloc (.cells ((cs++vs).toArray++qy (grownCap w (n+1) c 39 - (n+1))) 39):=by
 have u24: ∀w,Sem.run Try.prog (underlying 28) w= .ok (TypeDesc.slice 39) w:=run_underlying qG
 have mx:=mixed
 have hrun:=fun ty=>uh w ty base n c cs hold vb voff 1 vc vs (by omega) hvs h1v hroom hbig
 go_enter Try.func87,Try.ntmps87
 cases base with
 |none=>
  go_wp2_with (at_builtin;refine Lib.wpList_append_run _ rfl _ _ _ _ rfl _ _ rfl rfl _ _ (hrun _) ?_)
  all_goals (go_ret;exact ⟨rfl,rfl⟩)
 |some a=>
  obtain ⟨ab,ao,asp⟩:=a
  go_wp2_with (at_builtin;refine Lib.wpList_append_run _ rfl _ _ _ _ rfl _ _ rfl rfl _ _ (hrun _) ?_)
  all_goals (go_ret;exact ⟨rfl,rfl⟩)
end Go.ST
end
section
namespace Go.ST
open Go Go.DL Go.MM Go.Proofs
theorem wZ (b off n c i vb voff vc:Nat) (cs vs:List Value) (w:World) (hi:i<n) (hnc:n≤c) (hroom:c<n+1) (hbig:(n+1) * 56≤140737488355328)
  (hcl:cs.length=n * 4) (hvl:vs.length=4)
  (hcs: ∀j v,cs[j]? =some v→w.cell? ⟨b,off+j,none⟩=some v)
  (hvs: ∀j v,vs[j]? =some v→w.cell? ⟨vb,voff+j,none⟩=some v) (h1c: ∀v∈cs,v.oneCell'=true) (h1v: ∀v∈vs,v.oneCell'=true):
  Calls Try.prog 87 #[.slice (some ⟨b,off,none⟩) n c,.int .i64 i,.slice (some ⟨vb,voff,none⟩) 1 vc] w fun e w'=>
   e= .returned (.slice (some ⟨w.heap.size,0,none⟩) (n+1) (grownCap w (n+1) c 39))∧
   w'=(((w.alloc (.cells ((cs.take (i * 4)).toArray++qy (n+1 - i)++qy (grownCap w (n+1) c 39 - (n+1))) 39)).drew.setCells w.heap.size (i * 4) vs).drew).setCells w.heap.size ((i+1) * 4) (cs.drop (i * 4)):=by
 have u24: ∀w,Sem.run Try.prog (underlying 28) w= .ok (TypeDesc.slice 39) w:=run_underlying qG
 have mx:=mixed
 obtain ⟨i0,hi0,hz0,hzs,hzb⟩:=info_parts rS
 have hz2: ¬((i:Int)=(n:Int)):=by omega
 have hz3:(c:Int)<(n:Int)+1:=by omega
 have hsz:=szE
 have hbw:b<w.heap.size:=block_lt_of_cell (hcs 0 _ (ggZ (by omega)))
 have hvw:vb<w.heap.size:=block_lt_of_cell (hvs 0 _ (ggZ (by omega)))
 have hkk:(n:Int)+1 - (i:Int)=((n+1 - i:Nat):Int):=by omega
 have hik:i+(n+1 - i)=n+1:=by omega
 have hold:(Builtin.firstCells i0.size i (.slice (some ⟨b,off,none⟩) i c)).run Try.prog w.drew= .ok (cs.take (i * 4)).toArray w.drew:=by
  rw [hzs]
  exact run_firstCells_some w.drew 4 i ⟨b,off,none⟩ i c (cs.take (i * 4)) (by rw [List.length_take];omega) (fun j v hj=>by
   rw [Addr.add_lit]
   rw [List.getElem?_take] at hj
   split at hj
   ·exact hcs j v hj
   ·cases hj)
 have undI:Try.prog.underlying 3=some (.int .i64):=by kernel_rfl
 have hrz: ∀ty,(Builtin.append_ #[28,3] ty #[.slice (some ⟨b,off,none⟩) i c,.int .i64 ((n:Int)+1 - (i:Int))]).run Try.prog w=
   .ok (.slice (some ⟨w.heap.size,0,none⟩) (n+1) (grownCap w (n+1) c 39)) (w.drew.alloc (.cells ((cs.take (i * 4)).toArray++qy (n+1 - i)++qy (grownCap w (n+1) c 39 - (n+1))) 39)):=fun ty=>by
  have h:=Lib.run_append_grow_zeros w 28 3 ty 39 i0 _ .i64 .i64 qG undI hi0 hz0 (some ⟨b,off,none⟩) i c (cs.take (i * 4)) hold (n+1 - i) (by omega) (by omega) (by omega) (by omega) (by rw [hzb];omega) (by rw [hzb,hik];exact growslice_fits hroom hbig)
  rw [hik] at h
  rw [hkk]
  exact h
 obtain ⟨G,hG⟩: ∃G,G=grownCap w (n+1) c 39:=⟨_,rfl⟩
 obtain ⟨ROW,hROW⟩: ∃ROW:Array Value,ROW=(cs.take (i * 4)).toArray++qy (n+1 - i)++qy (G - (n+1)):=⟨_,rfl⟩
 rw [← hG] at hrz ⊢
 rw [← hROW] at hrz ⊢
 have hzl: ∀k,(qy k).size=k * 4:=fun k=>by simp [qy,Builtin.zeroCells,Value.cells]
 have hRl:(n+1) * 4≤ROW.size:=by
  rw [hROW,Array.size_append,Array.size_append,hzl,hzl,List.size_toArray,List.length_take]
  omega
 obtain ⟨W1,hW1⟩: ∃W1,W1=w.drew.alloc (.cells ROW 39):=⟨_,rfl⟩
 rw [← hW1] at hrz
 have hN: ∀j,j<(n+1) * 4→(W1.cell? ⟨w.heap.size,j,none⟩).isSome=true:=fun j hj=>by
  rw [hW1,World.cell?_alloc_at (w:=w.drew) ROW _ w.heap.size j rfl,Array.getElem?_eq_getElem (by omega)];rfl
 have hNf: ∀j,W1.frozen? ⟨w.heap.size,j,none⟩=false:=fun j=>by rw [hW1];exact World.frozen?_alloc_at (w:=w.drew) ROW _ w.heap.size j rfl
 have hOb: ∀j v,w.cell? ⟨b,j,none⟩=some v→W1.cell? ⟨b,j,none⟩=some v:=fun j v h=>by rw [hW1,World.cell?_alloc_past (w:=w.drew) _ b j hbw];exact h
 have hOv: ∀j v,w.cell? ⟨vb,j,none⟩=some v→W1.cell? ⟨vb,j,none⟩=some v:=fun j v h=>by rw [hW1,World.cell?_alloc_past (w:=w.drew) _ vb j hvw];exact h
 have hcpA: ∀(W:World),(∀ x,W.cell? x=W1.cell? x)→(∀ x,W.frozen? x=W1.frozen? x)→ ∀ty dc,(Builtin.copy_ #[28,28] ty #[.slice (some ⟨w.heap.size,i * 4,none⟩) (n+1 - i) dc,.slice (some ⟨vb,voff,none⟩) 1 vc]).run Try.prog W= .ok (goInt (Nat.min 1 (n+1 - i))) (W.setCells w.heap.size (i * 4) vs):=fun W hWc hWf ty dc=>
  pH W _ _ ty 39 4 w.heap.size (i * 4) (n+1 - i) dc ⟨vb,voff,none⟩ 1 vc vs qG hsz (by rw [hvl];simp only [Nat.min_def];split <;> omega)
   (fun j v hj=>by rw [Addr.add_lit,hWc];exact hOv _ v (hvs j v hj))
   (fun j hj=>by rw [hWc];exact hN _ (by omega)) (fun j hj=>by rw [hWf];exact hNf _) h1v
 have hGn:n+1≤G:=by rw [hG];exact grownCap_ge w _ _ _
 have hG63:G≤9223372036854775807:=by
  have:=grownCap_le_maxLen w (n+1) c 39 (by unfold maxLen;omega)
  rw [← hG] at this
  unfold maxLen at this
  omega
 have hGi: ¬(G=i):=by omega
 have hGim: ¬(G=i+1):=by omega
 have hci: ¬(c=i):=by omega
 have hbN:b≠w.heap.size:=by omega
 have hdl:(cs.drop (i * 4)).length=(n - i) * 4:=by rw [List.length_drop,hcl];omega
 have hcpB: ∀(W:World),(∀ x,W.cell? x=(W1.setCells w.heap.size (i * 4) vs).cell? x)→(∀ x,W.frozen? x=(W1.setCells w.heap.size (i * 4) vs).frozen? x)→ ∀ty dc sc,(Builtin.copy_ #[28,28] ty #[.slice (some ⟨w.heap.size,(i+1) * 4,none⟩) (n - i) dc,.slice (some ⟨b,off+i * 4,none⟩) (n - i) sc]).run Try.prog W= .ok (goInt (Nat.min (n - i) (n - i))) (W.setCells w.heap.size ((i+1) * 4) (cs.drop (i * 4))):=fun W hWc hWf ty dc sc=>
  pH W _ _ ty 39 4 w.heap.size ((i+1) * 4) (n - i) dc ⟨b,off+i * 4,none⟩ (n - i) sc (cs.drop (i * 4)) qG hsz (by rw [hdl];simp only [Nat.min_def];split <;> omega)
   (fun j v hj=>by
    rw [Addr.add_lit,hWc,World.cell?_setCells_out _ _ _ _ _ (fun h _=>absurd h hbN),Nat.add_assoc]
    exact hOb _ v (hcs (i * 4+j) v (by rwa [List.getElem?_drop] at hj)))
   (fun j hj=>by rw [hWc];exact qS _ _ _ _ (fun t ht=>hN _ (by omega)) _ (hN _ (by omega)))
   (fun j hj=>by rw [hWf,World.frozen?_setCells];exact hNf _) (fun v hv=>h1c v (List.mem_of_mem_drop hv))
 subst hW1
 have hE1: ∀x,((w.alloc (.cells ROW 39)).drew).cell? x=(w.drew.alloc (.cells ROW 39)).cell? x:=fun x=>rfl
 have hE2: ∀x,((w.alloc (.cells ROW 39)).drew).frozen? x=(w.drew.alloc (.cells ROW 39)).frozen? x:=fun x=>rfl
 have hF1: ∀x,(((w.alloc (.cells ROW 39)).drew.setCells w.heap.size (i * 4) vs).drew).cell? x=((w.drew.alloc (.cells ROW 39)).setCells w.heap.size (i * 4) vs).cell? x:=fun x=>rfl
 have hF2: ∀x,(((w.alloc (.cells ROW 39)).drew.setCells w.heap.size (i * 4) vs).drew).frozen? x=((w.drew.alloc (.cells ROW 39)).setCells w.heap.size (i * 4) vs).frozen? x:=fun x=>rfl
 have hw1:IntKind.i64.wrap ((i:Int)+1)=(i:Int)+1:=by rw [IntKind.wrap_i64];omega
 have hw2:IntKind.i64.wrap ((n:Int)+1)=(n:Int)+1:=by rw [IntKind.wrap_i64];omega
 have hw3:IntKind.i64.wrap ((n:Int)+1 - (i:Int))=(n:Int)+1 - (i:Int):=by rw [IntKind.wrap_i64];omega
 have hb1:(0:Int)≤(i:Int)+1:=by omega
 have hin:i≤n:=by omega
 have htn:((i:Int)+1).toNat=i+1:=by omega
 have hb3:(i:Int)≤(n:Int):=by omega
 clear hkk hik hold hROW hG hRl
 go_enter Try.func87,Try.ntmps87
 go_wp2_with (first
  |(at_builtin;refine Lib.wpList_append_run _ rfl _ _ _ _ rfl _ _ rfl rfl _ _ (hrz _) ?_)
  |(at_builtin;refine wpList_copy_run' _ rfl _ _ 28 28 rfl _ _ rfl rfl (hcpA _ hE1 hE2 _ _) ?_)
  |(at_builtin;refine wpList_copy_run' _ rfl _ _ 28 28 rfl _ _ rfl rfl (hcpB _ (fun _=>rfl) (fun _=>rfl) _ _ _) ?_))
 go_region_law_o (refine sj rfl _ _ 28 28 rfl (.slice (some ⟨w.heap.size,(i+1) * 4,none⟩) (n - i) (G - (i+1))) (.slice (some ⟨b,off+i * 4,none⟩) (n - i) (c - i)) (by simp [Act.eval,Act.put]) (by simp [Act.eval,Act.put]) (hcpB _ hF1 hF2 3 (G - (i+1)) (c - i)) ?_)
 go_wp2
 go_ret
 exact ⟨rfl,rfl⟩
end Go.ST
end
section
namespace Go.ST
open Go Go.DL Go.MM Go.Proofs
theorem qF {B:Nat} {a:World} (b:Nat) (hb:B≤b): ∀(vs:List Value) (o:Nat) (w:World),DL.Below B a w→DL.Below B a (w.setCells b o vs)
 |[],_,_,h=>h
 |v::r,o,_,h=>qF b hb r (o+1) _ ⟨h.toBelow.setCell (p:=⟨b,o,none⟩) hb v,h.dr⟩
theorem sG {w:World} {r i n:Nat} {cs vs:List Value} (hcl:cs.length=n * 4) (hvl:vs.length=4) (hi:i≤n) (h1: ∀(j:Nat) (v:Value),j<i * 4→cs[j]? =some v→w.cell? ⟨r,j,none⟩=some v) (h2: ∀(j:Nat) (v:Value),vs[j]? =some v→w.cell? ⟨r,i * 4+j,none⟩=some v)
  (h3: ∀(j:Nat) (v:Value),(cs.drop (i * 4))[j]? =some v→w.cell? ⟨r,(i+1) * 4+j,none⟩=some v): ∀(j:Nat) (u:Value),(cs.take (i * 4)++(vs++cs.drop (i * 4)))[j]? =some u→w.cell? ⟨r,j,none⟩=some u:=by
 intro j u hu
 have htl:(cs.take (i * 4)).length=i * 4:=by rw [List.length_take];omega
 by_cases c1:j<i * 4
 ·rw [List.getElem?_append_left (by omega),List.getElem?_take_of_lt c1] at hu
  exact h1 j u c1 hu
 ·rw [List.getElem?_append_right (by omega),htl] at hu
  by_cases c2:j - i * 4<4
  ·rw [List.getElem?_append_left (by omega)] at hu
   have:=h2 _ u hu
   rwa [show i * 4+(j - i * 4)=j by omega] at this
  ·rw [List.getElem?_append_right (by omega),hvl] at hu
   have:=h3 _ u hu
   rwa [show (i+1) * 4+(j - i * 4 - 4)=j by omega] at this
theorem xU {W:World} {base g n G i vb:Nat} {cur:Array Value} {cs vs:List Value} (hg:W.heap[g]? =some (.cells cur 39 (0,0))) (hcur:cur.size=G * 4) (hcs: ∀(j:Nat) (v:Value),cs[j]? =some v→cur[j]? =some v) (hcl:cs.length=n * 4)
  (hv:W.heap[vb]? =some (.cells vs.toArray 39 (0,0))) (hvl:vs.length=4) (hne:vb≠g) (hn:0<n) (hnG:n≤G) (hG:G≤9223372036854775807) (hi:i≤n) (hbig:(n+1) * 56≤140737488355328)
  (h1c: ∀v∈cs,v.oneCell'=true) (h1v: ∀v∈vs,v.oneCell'=true) (hbg:base≤g) (hbW:base≤W.heap.size):
  Calls Try.prog 87 #[.slice (some ⟨g,0,none⟩) n G,.int .i64 i,.slice (some ⟨vb,0,none⟩) 1 1] W fun e w'=> ∃r c,e= .returned (.slice (some ⟨r,0,none⟩) (n+1) c)∧n+1≤c∧base≤r∧r<w'.heap.size∧DL.Below base W w'∧
   ∀(j:Nat) (u:Value),(cs.take (i * 4)++(vs++cs.drop (i * 4)))[j]? =some u→w'.cell? ⟨r,j,none⟩=some u:=by
 have cg: ∀j,W.cell? ⟨g,j,none⟩=cur[j]? :=fun j=>cell_of_row _ _ _ _ _ _ hg
 have cv: ∀j,W.cell? ⟨vb,j,none⟩=vs[j]? :=fun j=>by rw [cell_of_row _ _ _ _ _ _ hv];simp
 have fg: ∀j,W.frozen? ⟨g,j,none⟩=false:=fun j=>by unfold World.frozen?;simp [hg]
 have fv: ∀j,W.frozen? ⟨vb,j,none⟩=false:=fun j=>by unfold World.frozen?;simp [hv]
 have hgl:g<W.heap.size:=(Array.getElem?_eq_some_iff.1 hg).1
 have hcs0: ∀j v,cs[j]? =some v→W.cell? ⟨g,0+j,none⟩=some v:=fun j v h=>by rw [Nat.zero_add,cg];exact hcs j v h
 have hvs0: ∀j v,vs[j]? =some v→W.cell? ⟨vb,0+j,none⟩=some v:=fun j v h=>by rw [Nat.zero_add,cv];exact h
 have sg:W.shape? g=some (39,G * 4):=by unfold World.shape?;simp [hg,hcur]
 have sv:W.shape? vb=some (39,4):=by unfold World.shape?;simp [hv,hvl]
 have someG: ∀j,j<G * 4→(W.cell? ⟨g,j,none⟩).isSome=true:=fun j hj=>by rw [cg,Array.getElem?_eq_getElem (by omega)];rfl
 have szS: ∀(w:World) b o (vs:List Value),(w.setCells b o vs).heap.size=w.heap.size:=by
  intro w b o vs
  induction vs generalizing w o with
  |nil=>rfl
  |cons v r ih=>rw [World.setCells,ih];simp [World.setCell]
 rcases Nat.lt_or_ge i n with hin|hin
 ·rcases Nat.lt_or_ge n G with hr|hr
  ·refine (wh g 0 n G i vb 0 1 cs vs W hin hr hG hne hcl hvl hcs0 (fun j hj=>by rw [Nat.zero_add];exact someG j (by omega)) (fun j _=>by rw [Nat.zero_add];exact fg j) hvs0 h1c h1v _ _ _ _ sv sg (by omega) (fv 0) (fv 4)).mono ?_
   rintro e w' ⟨rfl,rfl⟩
   simp only [Nat.zero_add]
   refine ⟨g,G,rfl,hr,hbg,by rw [szS,szS];exact hgl,qF g hbg _ _ _ (qF g hbg _ _ _ (DL.Below.refl _ _).drew),?_⟩
   have hdl:(cs.drop (i * 4)).length=(n - i) * 4:=by rw [List.length_drop,hcl];omega
   have s1: ∀k,k<G * 4→((W.drew.setCells g ((i+1) * 4) (cs.drop (i * 4))).cell? ⟨g,k,none⟩).isSome=true:=fun k hk=>qS g (cs.drop (i * 4)) ((i+1) * 4) W.drew (fun j hj=>someG ((i+1) * 4+j) (by omega)) k (someG k hk)
   refine sG hcl hvl hi (fun j v hj hv=>?_) (fun j v hv=>?_) (fun j v hv=>?_)
   ·rw [World.cell?_setCells_out _ _ _ _ _ (fun _ _=>by left;show j<i * 4;omega),World.cell?_setCells_out _ _ _ _ _ (fun _ _=>by left;show j<(i+1) * 4;omega)]
    show W.cell? _=_
    rw [cg];exact hcs j v hv
   ·have hj:=(gsZ hv).1
    have:=World.cell?_setCells_in g vs (i * 4) _ (fun k hk=>s1 _ (by omega)) j hj
    rw [this, ←hv,ggZ hj]
   ·have hj:=(gsZ hv).1
    rw [World.cell?_setCells_out _ _ _ _ _ (fun _ _=>by right;show i * 4+vs.length≤(i+1) * 4+j;omega)]
    have:=World.cell?_setCells_in g (cs.drop (i * 4)) ((i+1) * 4) W.drew (fun k hk=>someG _ (by omega)) j hj
    rw [this, ←hv,ggZ hj]
  ·refine (wZ g 0 n G i vb 0 1 cs vs W hin hnG (by omega) hbig hcl hvl hcs0 hvs0 h1c h1v).mono ?_
   rintro e w' ⟨rfl,rfl⟩
   have hge:=grownCap_ge W (n+1) G 39
   generalize grownCap W (n+1) G 39=C at *
   have hzl: ∀k,(qy k).size=k * 4:=fun k=>by simp [qy,Builtin.zeroCells,Value.cells]
   obtain ⟨ROW,hROW⟩: ∃ROW:Array Value,ROW=(cs.take (i * 4)).toArray++qy (n+1 - i)++qy (C - (n+1)):=⟨_,rfl⟩
   rw [← hROW]
   have hRl:(n+1) * 4≤ROW.size:=by
    rw [hROW,Array.size_append,Array.size_append,hzl,hzl,List.size_toArray,List.length_take]
    omega
   have hR1: ∀j v,j<i * 4→cs[j]? =some v→ROW[j]? =some v:=fun j v hj hv=>by
    rw [hROW,Array.getElem?_append_left (by rw [Array.size_append,hzl,List.size_toArray,List.length_take];omega),Array.getElem?_append_left (by rw [List.size_toArray,List.length_take];omega),List.getElem?_toArray,List.getElem?_take_of_lt hj]
    exact hv
   have hsz:(W.alloc (.cells ROW 39)).heap.size=W.heap.size+1:=Array.size_push _
   have hN: ∀j,(W.alloc (.cells ROW 39)).drew.cell? ⟨W.heap.size,j,none⟩=ROW[j]? :=fun j=>World.cell?_alloc_at ROW _ W.heap.size j rfl
   have hNs: ∀j,j<(n+1) * 4→((W.alloc (.cells ROW 39)).drew.cell? ⟨W.heap.size,j,none⟩).isSome=true:=fun j hj=>by rw [hN,Array.getElem?_eq_getElem (by omega)];rfl
   refine ⟨W.heap.size,C,rfl,hge,hbW,?_,qF _ hbW _ _ _ (qF _ hbW _ _ _ (((DL.Below.refl _ _).alloc hbW _).drew)).drew,?_⟩
   ·rw [szS]
    show _<(World.setCells _ _ _ _).heap.size
    rw [szS]
    show _<(W.alloc _).heap.size
    rw [hsz];omega
   have hdl:(cs.drop (i * 4)).length=(n - i) * 4:=by rw [List.length_drop,hcl];omega
   obtain ⟨W2,hW2⟩: ∃W2,W2=(W.alloc (.cells ROW 39)).drew.setCells W.heap.size (i * 4) vs:=⟨_,rfl⟩
   rw [← hW2]
   have s1: ∀k,k<(n+1) * 4→(W2.drew.cell? ⟨W.heap.size,k,none⟩).isSome=true:=fun k hk=>by
    show (W2.cell? _).isSome=true
    rw [hW2]
    exact qS W.heap.size vs (i * 4) _ (fun j hj=>hNs (i * 4+j) (by omega)) k (hNs k hk)
   refine sG hcl hvl hi (fun j v hj hv=>?_) (fun j v hv=>?_) (fun j v hv=>?_)
   ·rw [World.cell?_setCells_out _ _ _ _ _ (fun _ _=>by left;show j<(i+1) * 4;omega)]
    show W2.cell? _=_
    rw [hW2,World.cell?_setCells_out _ _ _ _ _ (fun _ _=>by left;show j<i * 4;omega),hN]
    exact hR1 j v hj hv
   ·have hj:=(gsZ hv).1
    rw [World.cell?_setCells_out _ _ _ _ _ (fun _ _=>by left;show i * 4+j<(i+1) * 4;omega)]
    show W2.cell? _=_
    rw [hW2]
    have:=World.cell?_setCells_in W.heap.size vs (i * 4) _ (fun k hk=>hNs _ (by omega)) j hj
    rw [this, ←hv,ggZ hj]
   ·have hj:=(gsZ hv).1
    have:=World.cell?_setCells_in W.heap.size (cs.drop (i * 4)) ((i+1) * 4) W2.drew (fun k hk=>s1 _ (by omega)) j hj
    rw [this, ←hv,ggZ hj]
 ·obtain rfl:i=n:=by omega
  have ht:cs.take (i * 4)=cs:=List.take_of_length_le (by omega)
  have hd:cs.drop (i * 4)=[]:=List.drop_eq_nil_of_le (by omega)
  rcases Nat.lt_or_ge i G with hr|hr
  ·refine (w6 g 0 i G vb 0 1 vs W hr hG hvl (fun j hj=>by rw [Nat.zero_add];exact someG _ (by omega)) (fun j _=>fg _) hvs0 h1v).mono ?_
   rintro e w' ⟨rfl,rfl⟩
   simp only [Nat.zero_add]
   refine ⟨g,G,rfl,hr,hbg,by rw [szS];exact hgl,qF g hbg _ _ _ (DL.Below.refl _ _),?_⟩
   refine sG hcl hvl hi (fun j v hj hv=>?_) (fun j v hv=>?_) (fun j v hv=>?_)
   ·rw [World.cell?_setCells_out _ _ _ _ _ (fun _ _=>by left;show j<i * 4;omega),cg]
    exact hcs j v hv
   ·have hj:=(gsZ hv).1
    have:=World.cell?_setCells_in g vs (i * 4) W (fun k hk=>someG _ (by omega)) j hj
    rw [this, ←hv,ggZ hj]
   ·rw [hd] at hv;simp at hv
  ·have hold:(Builtin.firstCells 4 i (.slice (some ⟨g,0,none⟩) i G)).run Try.prog W.drew= .ok cs.toArray W.drew:=
    run_firstCells_some W.drew 4 i ⟨g,0,none⟩ i G cs hcl (fun j v hj=>by rw [Addr.add_lit];exact hcs0 j v hj)
   refine (ud (some ⟨g,0,none⟩) i G vb 0 1 cs vs W (by omega) hbig hvl hold hvs0 h1v).mono ?_
   rintro e w' ⟨rfl,rfl⟩
   have hge:=grownCap_ge W (i+1) G 39
   generalize grownCap W (i+1) G 39=C at *
   refine ⟨W.heap.size,C,rfl,hge,hbW,?_,(DL.Below.refl _ _).drew.alloc hbW _,?_⟩
   ·show _<(W.drew.alloc _).heap.size
    have:(W.drew.alloc (.cells ((cs++vs).toArray++qy (C - (i+1))) 39)).heap.size=W.heap.size+1:=Array.size_push _
    rw [this];omega
   ·intro j u hu
    rw [ht,hd,List.append_nil] at hu
    rw [World.cell?_alloc_at (w:=W.drew) _ _ W.heap.size j rfl,Array.getElem?_append_left (by rw [List.size_toArray];exact (gsZ hu).1),List.getElem?_toArray]
    exact hu
end Go.ST
end
section
namespace Go.ST
open Go Go.DL Go.MM Go.Proofs
theorem ye (v0:Value) (c0 c1 c2 c3:Value) (hc: ∀x∈[c0,c1,c2,c3],x.oneCell'=true) (b off n cap:Nat) (news:List Value) (w:World) (p:Nat) (hn:0<n) (hp:p≤n) (hl:news.length=n * 4) (hbig:(n+1) * 56≤140737488355328)
  (hv0:v0= .slice (some ⟨b,off,none⟩) n cap) (hcell: ∀j u,news[j]? =some u→w.cell? ⟨b,off+j,none⟩=some u) (h1: ∀u∈news,u.oneCell'=true)
  (hplace:Calls Try.prog 48 #[v0,.agg #[c0,c1,c2,c3],.func (.func 35) #[] #[]] (w.alloc (.cells #[c0,c1,c2,c3] 39)) fun e w'=>e= .returned (.tuple #[.int .i64 p,.bool false])∧DL.Below (w.heap.size+1) (w.alloc (.cells #[c0,c1,c2,c3] 39)) w'):
  Calls Try.prog 64 #[v0,.agg #[c0,c1,c2,c3]] w fun e w'=> ∃r c,e= .returned (.slice (some ⟨r,0,none⟩) (n+1) c)∧n+1≤c∧w.heap.size≤r∧r<w'.heap.size∧DL.Below w.heap.size w w'∧
   ∀(j:Nat) (u:Value),(news.take (p * 4)++([c0,c1,c2,c3]++news.drop (p * 4)))[j]? =some u→w'.cell? ⟨r,j,none⟩=some u:=by
 have mx:=mixed
 have q22:=nil_eq
 have u22: ∀w,Sem.run Try.prog (underlying 28) w= .ok (TypeDesc.slice 39) w:=run_underlying qG
 subst hv0
 have hbw:b<w.heap.size:=block_lt_of_cell (hcell 0 _ (ggZ (by omega)))
 have hcell1: ∀w1,DL.Below (w.heap.size+1) (w.alloc (.cells #[c0,c1,c2,c3] 39)) w1→ ∀j u,news[j]? =some u→w1.cell? ⟨b,off+j,none⟩=some u:=fun w1 h j u hu=>by
  rw [h.toBelow.cell (p:=⟨b,off+j,none⟩) (by show b<w.heap.size+1;omega)]
  exact Lib.cell?_alloc_some _ (hcell j u hu)
 have hbox: ∀w1 w2 G,DL.Below (w.heap.size+1) (w.alloc (.cells #[c0,c1,c2,c3] 39)) w1→w2=(w1.alloc (.cells #[] 39)).drew.alloc (.cells (news.toArray++qy (G - n)) 39)→
   w2.cell? ⟨w.heap.size,0,none⟩=some c0∧w2.cell? ⟨w.heap.size,1,none⟩=some c1∧w2.cell? ⟨w.heap.size,2,none⟩=some c2∧w2.cell? ⟨w.heap.size,3,none⟩=some c3∧DL.Below w.heap.size w w2∧w.heap.size<w1.heap.size∧w2.heap.size=w1.heap.size+2∧w2.heap[w1.heap.size+1]? =some (.cells (news.toArray++qy (G - n)) 39 (0,0)):=by
  intro w1 w2 G hb he
  have hs0:(w.alloc (.cells #[c0,c1,c2,c3] 39)).heap.size=w.heap.size+1:=Array.size_push _
  have hs1:w.heap.size<w1.heap.size:=by have:=hb.toBelow.size;omega
  have hsa:(w1.alloc (.cells #[] 39)).heap.size=w1.heap.size+1:=Array.size_push _
  have hs2:w2.heap.size=w1.heap.size+2:=by
   rw [he]
   have:((w1.alloc (.cells #[] 39)).drew.alloc (.cells (news.toArray++qy (G - n)) 39)).heap.size=(w1.alloc (.cells #[] 39)).heap.size+1:=Array.size_push _
   rw [this,hsa]
  have hcell2: ∀(j:Nat) (u:Value), #[c0,c1,c2,c3][j]? =some u→w2.cell? ⟨w.heap.size,j,none⟩=some u:=fun j u hu=>by
   rw [he]
   refine Lib.cell?_alloc_some _ ?_
   show (w1.alloc (.cells #[] 39)).cell? _=_
   refine Lib.cell?_alloc_some _ ?_
   rw [hb.toBelow.cell (p:=⟨w.heap.size,j,none⟩) (by show w.heap.size<w.heap.size+1;omega),World.cell?_alloc_at _ _ w.heap.size j rfl]
   exact hu
  refine ⟨hcell2 0 c0 rfl,hcell2 1 c1 rfl,hcell2 2 c2 rfl,hcell2 3 c3 rfl,?_,hs1,hs2,?_⟩
  ·rw [he]
   exact (((((DL.Below.refl _ w).alloc (Nat.le_refl _) _).trans (hb.mono (Nat.le_succ _))).alloc (by omega) _).drew).alloc (by show w.heap.size≤(w1.alloc _).heap.size;rw [hsa];omega) _
  ·rw [he]
   show (((w1.alloc (.cells #[] 39)).heap.push (.cells (news.toArray++qy (G - n)) 39)))[w1.heap.size+1]? =_
   rw [← hsa]
   exact Array.getElem?_push_size
 have hzl: ∀k,(qy k).size=k * 4:=fun k=>by simp [qy,Builtin.zeroCells,Value.cells]
 have hins: ∀w1 w2 G,n≤G→G≤maxLen→DL.Below (w.heap.size+1) (w.alloc (.cells #[c0,c1,c2,c3] 39)) w1→w2=(w1.alloc (.cells #[] 39)).drew.alloc (.cells (news.toArray++qy (G - n)) 39)→
   Calls Try.prog 87 #[.slice (some ⟨w1.heap.size+1,0,none⟩) n G,.int .i64 p,.slice (some ⟨w2.heap.size,0,none⟩) 1 1] (w2.alloc (.cells #[c0,c1,c2,c3] 39)) fun e w'=> ∃r c,e= .returned (.slice (some ⟨r,0,none⟩) (n+1) c)∧n+1≤c∧w.heap.size≤r∧r<w'.heap.size∧DL.Below w.heap.size w w'∧
    ∀(j:Nat) (u:Value),(news.take (p * 4)++([c0,c1,c2,c3]++news.drop (p * 4)))[j]? =some u→w'.cell? ⟨r,j,none⟩=some u:=by
  intro w1 w2 G hG1 hG2 hb he
  obtain ⟨-, -, -, -,hB,hs1,hs2,hrow⟩:=hbox w1 w2 G hb he
  have hrow2:(w2.alloc (.cells #[c0,c1,c2,c3] 39)).heap[w1.heap.size+1]? =some (.cells (news.toArray++qy (G - n)) 39 (0,0)):=by
   rw [DL.Below.heap_alloc _ _ _ (by omega)];exact hrow
  have hvb:(w2.alloc (.cells #[c0,c1,c2,c3] 39)).heap[w2.heap.size]? =some (.cells [c0,c1,c2,c3].toArray 39 (0,0)):=Array.getElem?_push_size
  have hsv:(w2.alloc (.cells #[c0,c1,c2,c3] 39)).heap.size=w2.heap.size+1:=Array.size_push _
  refine (xU (base:=w.heap.size) hrow2 (by rw [Array.size_append,hzl,List.size_toArray,hl];omega) (fun j v hv=>by rw [Array.getElem?_append_left (by rw [List.size_toArray];exact (gsZ hv).1),List.getElem?_toArray];exact hv) hl hvb rfl (by omega) hn hG1 (by unfold maxLen at hG2;omega) hp hbig h1 hc (by omega) (by omega)).mono ?_
  rintro e w' ⟨r,c,rfl,q1,q2,q3,q4,q5⟩
  exact ⟨r,c,rfl,q1,q2,q3,(hB.alloc (by omega) _).trans q4,q5⟩
 go_enter Try.func64,Try.ntmps64
 go_wp2_with (first
  |(go_at_call 48;refine hplace.mono ?_;rintro e w1 ⟨rfl,hb1⟩)
  |(go_at_call 86;refine (u6 b off n cap news w1 hn hl (by omega) (hcell1 w1 hb1) h1).mono ?_;rintro e w2 ⟨G,hG1,hG2,rfl,hw2⟩;obtain ⟨k0,k1,k2,k3, -⟩:=hbox w1 w2 G hb1 hw2;have A2:Aside (w2=(w1.alloc (.cells #[] 39)).drew.alloc (.cells (news.toArray++qy (G - n)) 39)):=hw2;clear hw2)
  |(go_at_call 87;refine (hins w1 w2 G hG1 hG2 hb1 A2.out).mono ?_;rintro e w3 ⟨r,c,rfl,q⟩))
 go_ret
 exact ⟨r,c,rfl,q⟩
theorem yf (c0 c1 c2 c3:Value) (hc: ∀x∈[c0,c1,c2,c3],x.oneCell'=true) (a:Option Addr) (cap:Nat) (w:World)
  (hplace:Calls Try.prog 48 #[.slice a 0 cap,.agg #[c0,c1,c2,c3],.func (.func 35) #[] #[]] (w.alloc (.cells #[c0,c1,c2,c3] 39)) fun e w'=>e= .returned (.tuple #[.int .i64 0,.bool false])∧DL.Below (w.heap.size+1) (w.alloc (.cells #[c0,c1,c2,c3] 39)) w'):
  Calls Try.prog 64 #[.slice a 0 cap,.agg #[c0,c1,c2,c3]] w fun e w'=> ∃r c,e= .returned (.slice (some ⟨r,0,none⟩) 1 c)∧1≤c∧w.heap.size≤r∧r<w'.heap.size∧DL.Below w.heap.size w w'∧
   ∀(j:Nat) (u:Value),[c0,c1,c2,c3][j]? =some u→w'.cell? ⟨r,j,none⟩=some u:=by
 have mx:=mixed
 have q22:=nil_eq
 have u22: ∀w,Sem.run Try.prog (underlying 28) w= .ok (TypeDesc.slice 39) w:=run_underlying qG
 have hbox: ∀w1 w2:World,DL.Below (w.heap.size+1) (w.alloc (.cells #[c0,c1,c2,c3] 39)) w1→(w2=w1∨w2=w1.alloc (.cells #[] 39))→
   w2.cell? ⟨w.heap.size,0,none⟩=some c0∧w2.cell? ⟨w.heap.size,1,none⟩=some c1∧w2.cell? ⟨w.heap.size,2,none⟩=some c2∧w2.cell? ⟨w.heap.size,3,none⟩=some c3∧DL.Below w.heap.size w w2:=by
  intro w1 w2 hb he
  have hs0:(w.alloc (.cells #[c0,c1,c2,c3] 39)).heap.size=w.heap.size+1:=Array.size_push _
  have hs1:w.heap.size<w1.heap.size:=by have:=hb.toBelow.size;omega
  have hcell1: ∀(j:Nat) (u:Value), #[c0,c1,c2,c3][j]? =some u→w1.cell? ⟨w.heap.size,j,none⟩=some u:=fun j u hu=>by
   rw [hb.toBelow.cell (p:=⟨w.heap.size,j,none⟩) (by show w.heap.size<w.heap.size+1;omega),World.cell?_alloc_at _ _ w.heap.size j rfl]
   exact hu
  have hB1:DL.Below w.heap.size w w1:=((DL.Below.refl _ w).alloc (Nat.le_refl _) _).trans (hb.mono (Nat.le_succ _))
  rcases he with rfl|rfl
  ·exact ⟨hcell1 0 c0 rfl,hcell1 1 c1 rfl,hcell1 2 c2 rfl,hcell1 3 c3 rfl,hB1⟩
  ·have hcell2: ∀(j:Nat) (u:Value), #[c0,c1,c2,c3][j]? =some u→(w1.alloc (.cells #[] 39)).cell? ⟨w.heap.size,j,none⟩=some u:=fun j u hu=>Lib.cell?_alloc_some _ (hcell1 j u hu)
   exact ⟨hcell2 0 c0 rfl,hcell2 1 c1 rfl,hcell2 2 c2 rfl,hcell2 3 c3 rfl,hB1.alloc (by omega) _⟩
 have hins: ∀(w2:World) (base:Option Addr),DL.Below w.heap.size w w2→
   Calls Try.prog 87 #[.slice base 0 0,.int .i64 0,.slice (some ⟨w2.heap.size,0,none⟩) 1 1] (w2.alloc (.cells #[c0,c1,c2,c3] 39)) fun e w'=> ∃r c,e= .returned (.slice (some ⟨r,0,none⟩) 1 c)∧1≤c∧w.heap.size≤r∧r<w'.heap.size∧DL.Below w.heap.size w w'∧
    ∀(j:Nat) (u:Value),[c0,c1,c2,c3][j]? =some u→w'.cell? ⟨r,j,none⟩=some u:=by
  intro w2 base hB
  have hle:w.heap.size≤w2.heap.size:=hB.toBelow.size
  have hsv:(w2.alloc (.cells #[c0,c1,c2,c3] 39)).heap.size=w2.heap.size+1:=Array.size_push _
  have hold:(Builtin.firstCells 4 0 (.slice base 0 0)).run Try.prog (w2.alloc (.cells #[c0,c1,c2,c3] 39)).drew= .ok ([]:List Value).toArray (w2.alloc (.cells #[c0,c1,c2,c3] 39)).drew:=by
   cases base with
   |none=>exact run_firstCells_none _ 4 0 0 0
   |some a=>exact run_firstCells_some _ 4 0 a 0 0 [] rfl (fun j v hj=>by simp at hj)
  refine (ud base 0 0 w2.heap.size 0 1 [] [c0,c1,c2,c3] _ (by omega) (by omega) rfl hold (fun j v hv=>by rw [Nat.zero_add,World.cell?_alloc_at _ _ w2.heap.size j rfl, ←hv];simp) hc).mono ?_
  rintro e w' ⟨rfl,rfl⟩
  have hge:=grownCap_ge (w2.alloc (.cells #[c0,c1,c2,c3] 39)) (0+1) 0 39
  generalize grownCap (w2.alloc (.cells #[c0,c1,c2,c3] 39)) (0+1) 0 39=C at *
  refine ⟨_,C,rfl,hge,by omega,?_,(((hB.alloc (by omega) _).drew).alloc (by show w.heap.size≤(w2.alloc _).heap.size;omega) _),?_⟩
  ·show _<(((w2.alloc (.cells #[c0,c1,c2,c3] 39)).drew).alloc _).heap.size
   have:(((w2.alloc (.cells #[c0,c1,c2,c3] 39)).drew).alloc (.cells (([]++[c0,c1,c2,c3]).toArray++qy (C - (0+1))) 39)).heap.size=(w2.alloc (.cells #[c0,c1,c2,c3] 39)).heap.size+1:=Array.size_push _
   rw [this];omega
  ·intro j u hu
   rw [World.cell?_alloc_at (w:=(w2.alloc (.cells #[c0,c1,c2,c3] 39)).drew) _ _ (w2.alloc (.cells #[c0,c1,c2,c3] 39)).heap.size j rfl,Array.getElem?_append_left (by rw [List.size_toArray];exact (gsZ hu).1),List.getElem?_toArray]
   exact hu
 go_enter Try.func64,Try.ntmps64
 go_wp2_with (first
  |(go_at_call 48;refine hplace.mono ?_;rintro e w1 ⟨rfl,hb1⟩)
  |(go_at_call 86;refine (uA a cap w1).mono ?_;rintro e w2 ⟨bs,rfl,hw2⟩;obtain ⟨k0,k1,k2,k3,hB2⟩:=hbox w1 w2 hb1 hw2;have A2:Aside (DL.Below w.heap.size w w2):=hB2;clear hw2 hB2)
  |(go_at_call 87;refine (hins w2 bs A2.out).mono ?_;rintro e w3 ⟨r,c,rfl,q⟩))
 go_ret
 exact ⟨r,c,rfl,q⟩
end Go.ST
end
section
namespace Go.ST
open Go Go.DL Go.MM Go.Proofs
theorem size_setCells (b:Nat) (vs:List Value): ∀(w:World) (o:Nat),(w.setCells b o vs).heap.size=w.heap.size:=by
 induction vs with
 |nil=>intro w o;rfl
 |cons v r ih=>intro w o;rw [World.setCells,ih];simp [World.setCell]
theorem sy (W:World) (g o:Nat) (v:Value) (h1:v.oneCell'=true) (hs:(W.cell? ⟨g,o,none⟩).isSome=true) (hf:W.frozen? ⟨g,o,none⟩=false):(store ⟨g,o,none⟩ v).run Try.prog W= .ok () (W.setCell ⟨g,o,none⟩ v):=by
 obtain ⟨u,hu⟩:=Option.isSome_iff_exists.1 hs
 rw [run_store Try.prog W _ v _ h1]
 simp [hu,hf]
theorem zd (c0 c1 c2 c3:Value) (hc: ∀x∈[c0,c1,c2,c3],x.oneCell'=true) (W:World) (g p n:Nat) (news:List Value) (hp:p<n) (hl:news.length=n * 4) (hk: ∀(j:Nat) (u:Value),news[j]? =some u→W.cell? ⟨g,j,none⟩=some u) (hf: ∀j,W.frozen? ⟨g,j,none⟩=false):
  ∃Wa Wb Wc Wd:World,(store ⟨g,p * 4,none⟩ c0).run Try.prog W= .ok () Wa∧(store ⟨g,p * 4+1,none⟩ c1).run Try.prog Wa= .ok () Wb∧(store ⟨g,p * 4+2,none⟩ c2).run Try.prog Wb= .ok () Wc∧(store ⟨g,p * 4+3,none⟩ c3).run Try.prog Wc= .ok () Wd∧
   Wd=W.setCells g (p * 4) [c0,c1,c2,c3]∧ ∀(j:Nat) (u:Value),(news.take (p * 4)++([c0,c1,c2,c3]++news.drop ((p+1) * 4)))[j]? =some u→Wd.cell? ⟨g,j,none⟩=some u:=by
 have hsome: ∀j,j<n * 4→(W.cell? ⟨g,j,none⟩).isSome=true:=fun j hj=>by rw [hk j _ (ggZ (by omega))];rfl
 have keep: ∀(V:World) (a:Addr) (v:Value) (j:Nat),(V.cell? ⟨g,j,none⟩).isSome=true→((V.setCell a v).cell? ⟨g,j,none⟩).isSome=true:=fun V a v j h=>by
  obtain ⟨u,hu⟩:=Option.isSome_iff_exists.1 h
  by_cases e:a=⟨g,j,none⟩
  ·subst e;rw [World.cell?_setCell_same _ _ _ hu];rfl
  ·rw [World.cell?_setCell_other _ _ _ _ e];exact h
 refine ⟨_,_,_,_,sy W g (p * 4) c0 (hc _ (by simp)) (hsome _ (by omega)) (hf _),sy _ g (p * 4+1) c1 (hc _ (by simp)) (keep _ _ _ _ (hsome _ (by omega))) (by rw [World.frozen?_setCell];exact hf _),
  sy _ g (p * 4+2) c2 (hc _ (by simp)) (keep _ _ _ _ (keep _ _ _ _ (hsome _ (by omega)))) (by rw [World.frozen?_setCell,World.frozen?_setCell];exact hf _),sy _ g (p * 4+3) c3 (hc _ (by simp)) (keep _ _ _ _ (keep _ _ _ _ (keep _ _ _ _ (hsome _ (by omega))))) (by rw [World.frozen?_setCell,World.frozen?_setCell,World.frozen?_setCell];exact hf _),rfl,?_⟩
 show ∀(j:Nat) (u:Value),_→(W.setCells g (p * 4) [c0,c1,c2,c3]).cell? _=_
 intro j u hu
 have htl:(news.take (p * 4)).length=p * 4:=by rw [List.length_take];omega
 by_cases a1:j<p * 4
 ·rw [List.getElem?_append_left (by omega),List.getElem?_take_of_lt a1] at hu
  rw [World.cell?_setCells_out _ _ _ _ _ (fun _ _=>by left;exact a1)]
  exact hk j u hu
 ·rw [List.getElem?_append_right (by omega),htl] at hu
  by_cases a2:j - p * 4<4
  ·rw [List.getElem?_append_left (by simpa using a2)] at hu
   have:=World.cell?_setCells_in g [c0,c1,c2,c3] (p * 4) W (fun k hk=>hsome _ (by simp at hk;omega)) (j - p * 4) (by simpa using a2)
   rw [show p * 4+(j - p * 4)=j by omega] at this
   rw [this, ←hu,ggZ (by simpa using a2)]
  ·rw [List.getElem?_append_right (by simp;omega),List.getElem?_drop] at hu
   rw [World.cell?_setCells_out _ _ _ _ _ (fun _ _=>by right;show p * 4+4≤j;omega)]
   refine hk j u ?_
   rw [← hu]
   congr 1
   simp
   omega
theorem yg (v0:Value) (c0 c1 c2 c3:Value) (hc: ∀x∈[c0,c1,c2,c3],x.oneCell'=true) (b off n cap:Nat) (news:List Value) (w:World) (p:Nat) (hp:p<n) (hl:news.length=n * 4) (hbig:n * 56≤140737488355328)
  (hv0:v0= .slice (some ⟨b,off,none⟩) n cap) (hcell: ∀j u,news[j]? =some u→w.cell? ⟨b,off+j,none⟩=some u) (h1: ∀u∈news,u.oneCell'=true)
  (hplace:Calls Try.prog 48 #[v0,.agg #[c0,c1,c2,c3],.func (.func 35) #[] #[]] (w.alloc (.cells #[c0,c1,c2,c3] 39)) fun e w'=>e= .returned (.tuple #[.int .i64 p,.bool true])∧DL.Below (w.heap.size+1) (w.alloc (.cells #[c0,c1,c2,c3] 39)) w'):
  Calls Try.prog 64 #[v0,.agg #[c0,c1,c2,c3]] w fun e w'=> ∃r c,e= .returned (.slice (some ⟨r,0,none⟩) n c)∧n≤c∧w.heap.size≤r∧r<w'.heap.size∧DL.Below w.heap.size w w'∧
   ∀(j:Nat) (u:Value),(news.take (p * 4)++([c0,c1,c2,c3]++news.drop ((p+1) * 4)))[j]? =some u→w'.cell? ⟨r,j,none⟩=some u:=by
 have mx:=mixed
 have q22:=nil_eq
 have u22: ∀w,Sem.run Try.prog (underlying 28) w= .ok (TypeDesc.slice 39) w:=run_underlying qG
 subst hv0
 have hbw:b<w.heap.size:=block_lt_of_cell (hcell 0 _ (ggZ (by omega)))
 have hcell1: ∀w1,DL.Below (w.heap.size+1) (w.alloc (.cells #[c0,c1,c2,c3] 39)) w1→ ∀j u,news[j]? =some u→w1.cell? ⟨b,off+j,none⟩=some u:=fun w1 h j u hu=>by
  rw [h.toBelow.cell (p:=⟨b,off+j,none⟩) (by show b<w.heap.size+1;omega)]
  exact Lib.cell?_alloc_some _ (hcell j u hu)
 have hzl: ∀k,(qy k).size=k * 4:=fun k=>by simp [qy,Builtin.zeroCells,Value.cells]
 have hbox: ∀w1 w2 G,n≤G→DL.Below (w.heap.size+1) (w.alloc (.cells #[c0,c1,c2,c3] 39)) w1→w2=(w1.alloc (.cells #[] 39)).drew.alloc (.cells (news.toArray++qy (G - n)) 39)→
   w2.cell? ⟨w.heap.size,0,none⟩=some c0∧w2.cell? ⟨w.heap.size,1,none⟩=some c1∧w2.cell? ⟨w.heap.size,2,none⟩=some c2∧w2.cell? ⟨w.heap.size,3,none⟩=some c3∧DL.Below w.heap.size w w2∧w.heap.size<w1.heap.size∧w2.heap.size=w1.heap.size+2∧(∀ j,w2.frozen? ⟨w1.heap.size+1,j,none⟩=false)∧
   (∀ (j:Nat) (u:Value),news[j]? =some u→w2.cell? ⟨w1.heap.size+1,j,none⟩=some u):=by
  intro w1 w2 G hG hb he
  have hs0:(w.alloc (.cells #[c0,c1,c2,c3] 39)).heap.size=w.heap.size+1:=Array.size_push _
  have hs1:w.heap.size<w1.heap.size:=by have:=hb.toBelow.size;omega
  have hsa:(w1.alloc (.cells #[] 39)).heap.size=w1.heap.size+1:=Array.size_push _
  have hs2:w2.heap.size=w1.heap.size+2:=by
   rw [he]
   have:((w1.alloc (.cells #[] 39)).drew.alloc (.cells (news.toArray++qy (G - n)) 39)).heap.size=(w1.alloc (.cells #[] 39)).heap.size+1:=Array.size_push _
   rw [this,hsa]
  have hcell2: ∀(j:Nat) (u:Value), #[c0,c1,c2,c3][j]? =some u→w2.cell? ⟨w.heap.size,j,none⟩=some u:=fun j u hu=>by
   rw [he]
   refine Lib.cell?_alloc_some _ ?_
   show (w1.alloc (.cells #[] 39)).cell? _=_
   refine Lib.cell?_alloc_some _ ?_
   rw [hb.toBelow.cell (p:=⟨w.heap.size,j,none⟩) (by show w.heap.size<w.heap.size+1;omega),World.cell?_alloc_at _ _ w.heap.size j rfl]
   exact hu
  refine ⟨hcell2 0 c0 rfl,hcell2 1 c1 rfl,hcell2 2 c2 rfl,hcell2 3 c3 rfl,?_,hs1,hs2,fun j=>?_,fun j u hu=>?_⟩
  ·rw [he]
   exact (((((DL.Below.refl _ w).alloc (Nat.le_refl _) _).trans (hb.mono (Nat.le_succ _))).alloc (by omega) _).drew).alloc (by show w.heap.size≤(w1.alloc _).heap.size;rw [hsa];omega) _
  ·rw [he, ←hsa]
   exact World.frozen?_alloc_at (w:=(w1.alloc (.cells #[] 39)).drew) _ _ _ j rfl
  ·rw [he, ←hsa,World.cell?_alloc_at (w:=(w1.alloc (.cells #[] 39)).drew) _ _ (w1.alloc (.cells #[] 39)).heap.size j rfl,Array.getElem?_append_left (by rw [List.size_toArray];exact (gsZ hu).1),List.getElem?_toArray]
   exact hu
 go_enter Try.func64,Try.ntmps64
 go_wp2_with (first
  |(go_at_call 48;refine hplace.mono ?_;rintro e w1 ⟨rfl,hb1⟩)
  |(go_at_call 86;refine (u6 b off n cap news w1 (by omega) hl (by omega) (hcell1 w1 hb1) h1).mono ?_;rintro e w2 ⟨G,hG1,hG2,rfl,hw2⟩;obtain ⟨k0,k1,k2,k3,kB,kS,kT,kf,kc⟩:=hbox w1 w2 G hG1 hb1 hw2;have AB:Aside (DL.Below w.heap.size w w2∧w.heap.size<w1.heap.size∧w2.heap.size=w1.heap.size+2):=⟨kB,kS,kT⟩;clear kB kS kT;have A2:Aside (w2=(w1.alloc (.cells #[] 39)).drew.alloc (.cells (news.toArray++qy (G - n)) 39)):=hw2;clear hw2;obtain ⟨Wa,Wb,Wc,Wd,s0,s1,s2,s3,eD,kD⟩:=zd c0 c1 c2 c3 hc w2 (w1.heap.size+1) p n news hp hl kc kf;have AD:Aside (Wd=w2.setCells (w1.heap.size+1) (p * 4) [c0,c1,c2,c3]):=eD;clear eD kf kc))
 go_ret
 obtain ⟨kB,kS,kT⟩:=AB.out
 refine ⟨w1.heap.size+1,G,rfl,hG1,by omega,?_,?_,kD⟩
 ·rw [AD.out,size_setCells];omega
 ·rw [AD.out];exact qF _ (by omega) _ _ _ kB
end Go.ST
end
section
namespace Go.ST
open Go Go.DL Go.MM Go.Proofs
structure Al {α β:Type} (R:α→β→Prop) (xs:List α) (ts:List β):Prop where
 len:xs.length=ts.length
 at_: ∀(i:Nat) (x:α) (t:β),xs[i]? =some x→ts[i]? =some t→R x t
section
variable {α β:Type} {R:α→β→Prop} {xs ys:List α} {ts us:List β}
theorem Al.take (h:Al R xs ts) (k:Nat):Al R (xs.take k) (ts.take k):=⟨by rw [List.length_take,List.length_take,h.len],fun i x t hx ht=>by
 rw [List.getElem?_take] at hx ht
 split at hx
 ·rename_i hk;rw [if_pos hk] at ht;exact h.at_ i x t hx ht
 ·cases hx⟩
theorem Al.drop (h:Al R xs ts) (k:Nat):Al R (xs.drop k) (ts.drop k):=⟨by rw [List.length_drop,List.length_drop,h.len],fun i x t hx ht=>by
 rw [List.getElem?_drop] at hx ht
 exact h.at_ _ x t hx ht⟩
theorem Al.append (h:Al R xs ts) (k:Al R ys us):Al R (xs++ys) (ts++us):=⟨by rw [List.length_append,List.length_append,h.len,k.len],fun i x t hx ht=>by
 by_cases hi:i<xs.length
 ·rw [List.getElem?_append_left hi] at hx
  rw [List.getElem?_append_left (by rw [← h.len];exact hi)] at ht
  exact h.at_ i x t hx ht
 ·rw [List.getElem?_append_right (by omega)] at hx
  rw [List.getElem?_append_right (by rw [← h.len];omega), ←h.len] at ht
  exact k.at_ _ x t hx ht⟩
end
theorem rQ (st:List RE):(st.map qx).flatMap T.cells=st.flatMap qu:=by
 induction st with
 |nil=>rfl
 |cons x xs ih=>rw [List.map_cons,List.flatMap_cons,List.flatMap_cons,ih];rfl
theorem qN (st:List RE):(st.flatMap qu).length=st.length * 4:=by
 induction st with
 |nil=>rfl
 |cons x xs ih=>rw [List.flatMap_cons,List.length_append,ih,List.length_cons];show 4+_=_;omega
theorem sq (st:List RE) (k:Nat):(st.take k).flatMap qu=(st.flatMap qu).take (k * 4):=by
 induction st generalizing k with
 |nil=>simp
 |cons x xs ih=>
  cases k with
  |zero=>simp
  |succ k=>
   rw [List.take_succ_cons,List.flatMap_cons,List.flatMap_cons,ih,show (k+1) * 4=(qu x).length+k * 4 by show _=4+k * 4;omega,List.take_append,List.take_of_length_le (l:=qu x) (Nat.le_add_right _ _),Nat.add_sub_cancel_left]
theorem sk (st:List RE) (k:Nat):(st.drop k).flatMap qu=(st.flatMap qu).drop (k * 4):=by
 induction st generalizing k with
 |nil=>simp
 |cons x xs ih=>
  cases k with
  |zero=>simp
  |succ k=>
   rw [List.drop_succ_cons,List.flatMap_cons,ih,show (k+1) * 4=(qu x).length+k * 4 by show _=4+k * 4;omega,List.drop_append]
   simp
theorem uM (st:List RE): ∀t∈st.flatMap qu,t.one=true:=fun t ht=>by
 obtain ⟨e,_,h⟩:=List.mem_flatMap.1 ht
 simp only [qu,List.mem_cons,List.not_mem_nil,or_false] at h
 rcases h with rfl|rfl|rfl|rfl <;> rfl
theorem zb {S:aq} {w:World} {r n c:Nat} {L:List Value} {st:List RE} (hn:st.length=n) (hc:n≤c) (hL:Al (fun x t=>Rep S w x t) L (st.flatMap qu)) (hcell: ∀(j:Nat) (u:Value),L[j]? =some u→w.cell? ⟨r,j,none⟩=some u) (hS: ∀o,S r o):
  Rep S w (.slice (some ⟨r,0,none⟩) n c) (esT st):=by
 refine Rep.slice (some ⟨r,0,none⟩) r 0 n c 4 (st.map qx) (fun i=>L[i]?.getD undef) (by rw [List.length_map,hn]) hc (fun x hx=>?_) (fun t ht=>?_) (fun _=>rfl) (fun i hi=>?_) (fun i t ht=>?_)
 ·obtain ⟨e,_,rfl⟩:=List.mem_map.1 hx
  rfl
 ·rw [rQ] at ht;exact uM st t ht
 ·rw [rQ, ←hL.len] at hi
  rw [Nat.zero_add,hcell i L[i] (ggZ hi),ggZ hi]
  exact ⟨rfl,hS i⟩
 ·rw [rQ] at ht
  have hi:=(gsZ ht).1
  rw [← hL.len] at hi
  show Rep S w (L[i]?.getD undef) t
  rw [ggZ hi]
  exact hL.at_ i _ t (ggZ hi) ht
theorem zI (st:List RE) (hs:qH st) (hl:st.length<2^40) (hk: ∀x∈st,kOk x) (e:RE) (he:kOk e):DCalls Try.prog 64 [esT st,qx e] (esT (qL e st)):=by
 refine ⟨dD Try.func64 rfl rfl,fun S w vs hS hG hlen hrep=>?_⟩
 obtain ⟨v0,v1,rfl⟩: ∃v0 v1,vs=[v0,v1]:=by
  match vs,hlen with
  |[a,b],_=>exact ⟨a,b,rfl⟩
 have r0:=hrep 0 v0 _ rfl rfl
 have r1:=hrep 1 v1 _ rfl rfl
 obtain ⟨c0,c1,c2,c3,rfl⟩: ∃c0 c1 c2 c3,v1= .agg #[c0,c1,c2,c3]:=by
  cases r1 with
  |agg cs ts hs h1 h=>
   have hs:cs.size=4:=hs
   refine ⟨cs[0],cs[1],cs[2],cs[3],?_⟩
   congr 1
   apply Array.ext
   ·simp [hs]
   ·intro i h1 h2
    match i,h1 with
    |0,_|1,_|2,_|3,_=>rfl
    |i+4,h1=>omega
 have hcs:Al (fun x t=>Rep S w x t) [c0,c1,c2,c3] (qu e):=by
  cases r1 with
  |agg cs ts hs h1 h=>exact ⟨rfl,fun i x t hx ht=>h i x t (by rw [← hx];simp) ht⟩
 have hc1: ∀x∈[c0,c1,c2,c3],x.oneCell'=true:=fun x hx=>by
  obtain ⟨i,hi,rfl⟩:=List.getElem_of_mem hx
  have hi':i<(qu e).length:=hi
  exact (hcs.at_ i _ _ (ggZ hi) (ggZ hi')).one (uM [e] _ (by simp [List.getElem_mem]))
 have hsz:(w.alloc (.cells #[c0,c1,c2,c3] 39)).heap.size=w.heap.size+1:=Array.size_push _
 have hB1:DL.Below w.heap.size w (w.alloc (.cells #[c0,c1,c2,c3] 39)):=(DL.Below.refl _ w).alloc (Nat.le_refl _) _
 have up: ∀{x:Value} {t:T},Rep S w x t→Rep S (w.alloc (.cells #[c0,c1,c2,c3] 39)) x t:=fun h=>h.mono (fun _ _ hs=>hs) (fun b o hs=>aA.cU hB1 (hS b o hs))
 have hpl:=(vp st hs hl hk e he).2 S (w.alloc (.cells #[c0,c1,c2,c3] 39)) [v0,.agg #[c0,c1,c2,c3],.func (.func 35) #[] #[]] (fun b o h=>by rw [hsz];have:=hS b o h;omega) (hG.up (fun _ _ h=>h) hB1) rfl (fun i v t hv ht=>by
  match i,hv,ht with
  |0,hv,ht=>cases hv;cases ht;exact up r0
  |1,hv,ht=>cases hv;cases ht;exact up r1
  |2,hv,ht=>cases hv;cases ht;exact .clos _ #[] [] rfl (fun i x t hx=>by simp at hx)
  |i+3,hv,_=>simp at hv)
 have hplace:Calls Try.prog 48 #[v0,.agg #[c0,c1,c2,c3],.func (.func 35) #[] #[]] (w.alloc (.cells #[c0,c1,c2,c3] 39)) fun en w'=>en= .returned (.tuple #[.int .i64 (qC st e:Nat),.bool (isE st e)])∧DL.Below (w.heap.size+1) (w.alloc (.cells #[c0,c1,c2,c3] 39)) w':=by
  refine hpl.mono ?_
  rintro en w' ⟨v,rfl,hb,hr⟩
  rw [hsz] at hb
  refine ⟨congrArg _ ?_,hb⟩
  cases hr with
  |tup cs ts hs h=>
   have hs:cs.size=2:=hs
   have e0:=h 0 cs[0] _ (Array.getElem?_eq_getElem (by omega)) rfl
   have e1:=h 1 cs[1] _ (Array.getElem?_eq_getElem (by omega)) rfl
   have e0:=e0.ax
   have e1:=e1.aL
   congr 1
   apply Array.ext
   ·simp [hs]
   ·intro i h1 h2
    match i,h1 with
    |0,_=>exact e0
    |1,_=>exact e1
    |i+2,h1=>omega
 have hple:=tM st e
 have fin: ∀(w':World) (r n c:Nat) (news:List Value) (k:Nat),Al (fun x t=>Rep S w x t) news (st.flatMap qu)→(st.take (qC st e)++e::st.drop k).length=n→n≤c→w.heap.size≤r→r<w'.heap.size→DL.Below w.heap.size w w'→
   qL e st=st.take (qC st e)++e::st.drop k→(∀ (j:Nat) (u:Value),(news.take (qC st e * 4)++([c0,c1,c2,c3]++news.drop (k * 4)))[j]? =some u→w'.cell? ⟨r,j,none⟩=some u)→
   ∃v,Ending.returned (.slice (some ⟨r,0,none⟩) n c)= .returned v∧DL.Below w.heap.size w w'∧Rep (fun b o=>S b o∨(w.heap.size≤b∧b<w'.heap.size)) w' v (esT (qL e st)):=by
  intro w' r n c news k hA hn hc hr hr2 hb hput hcell
  refine ⟨_,rfl,hb,?_⟩
  rw [hput]
  have hup: ∀{x:Value} {t:T},Rep S w x t→Rep (fun b o=>S b o∨(w.heap.size≤b∧b<w'.heap.size)) w' x t:=fun h=>h.mono (fun _ _ hs=>Or.inl hs) (fun b o hs=>aA.cU hb (hS b o hs))
  refine zb (L:=news.take (qC st e * 4)++([c0,c1,c2,c3]++news.drop (k * 4))) hn hc ?_ hcell (fun o=>Or.inr ⟨hr,hr2⟩)
  rw [List.flatMap_append,List.flatMap_cons,sq,sk]
  have hA':Al (fun x t=>Rep (fun b o=>S b o∨(w.heap.size≤b∧b<w'.heap.size)) w' x t) news (st.flatMap qu):=⟨hA.len,fun i x t hx ht=>hup (hA.at_ i x t hx ht)⟩
  have hcs':Al (fun x t=>Rep (fun b o=>S b o∨(w.heap.size≤b∧b<w'.heap.size)) w' x t) [c0,c1,c2,c3] (qu e):=⟨hcs.len,fun i x t hx ht=>hup (hcs.at_ i x t hx ht)⟩
  exact (hA'.take _).append (hcs'.append (hA'.drop _))
 have hput:=xc hs e
 have hisE:(qK st e.var e.key).isSome=isE st e:=rfl
 rw [hisE] at hput
 by_cases h0:st=[]
 ·subst h0
  obtain ⟨a,cap,rfl⟩: ∃a cap,v0= .slice a 0 cap:=by
   cases r0 with
   |slice a b o len cap n xs g hl hc hu h1 ha hg h=>
    have:len=0:=by simpa using hl.symm
    subst this
    exact ⟨a,cap,rfl⟩
  have hp0:qC [] e=0:=rfl
  have hi0:isE [] e=false:=rfl
  rw [hi0] at hplace
  refine (yf c0 c1 c2 c3 hc1 a cap w hplace).mono ?_
  rintro en w' ⟨r,c,rfl,q1,q2,q3,q4,q5⟩
  exact fin w' r 1 c [] 0 ⟨rfl,fun i x t hx=>by simp at hx⟩ rfl q1 q2 q3 q4 rfl (fun j u hu=>q5 j u (by simpa using hu))
 ·have hn:0<st.length:=List.length_pos_iff.2 h0
  obtain ⟨b,off,cap,news,hv0,hnl,hncell,hA⟩: ∃b off cap news,v0= .slice (some ⟨b,off,none⟩) st.length cap∧news.length=st.length * 4∧(∀ (j:Nat) (u:Value),news[j]? =some u→w.cell? ⟨b,off+j,none⟩=some u)∧Al (fun x t=>Rep S w x t) news (st.flatMap qu):=by
   cases r0 with
   |slice a b o len cap n xs g hl hc hu h1 ha hg h=>
    rw [rQ] at ha hg h
    have hle:len=st.length:=by simpa using hl.symm
    subst hle
    have hfl:=qN st
    rw [ha (by omega)]
    refine ⟨b,o,cap,(List.range (st.length * 4)).map g,rfl,by simp,fun j u hu=>?_,by simp [hfl],fun i x t hx ht=>?_⟩
    ·obtain ⟨k,hk,rfl⟩:=List.getElem?_map .. ▸hu |> Option.map_eq_some_iff.1
     have hj:j<st.length * 4:=by
      have:=(gsZ hk).1
      simpa using this
     have:k=j:=by rw [List.getElem?_range hj] at hk;exact (Option.some.inj hk).symm
     subst this
     exact (hg k (by omega)).1
    ·obtain ⟨k,hk,rfl⟩:=List.getElem?_map .. ▸hx |> Option.map_eq_some_iff.1
     have hj:i<st.length * 4:=by
      have:=(gsZ hk).1
      simpa using this
     have:k=i:=by rw [List.getElem?_range hj] at hk;exact (Option.some.inj hk).symm
     subst this
     exact h k t ht
  have h1n: ∀u∈news,u.oneCell'=true:=fun u hu=>by
   obtain ⟨i,hi,rfl⟩:=List.getElem_of_mem hu
   have hi':i<(st.flatMap qu).length:=by rw [← hA.len];exact hi
   exact (hA.at_ i _ _ (ggZ hi) (ggZ hi')).one (uM st _ (List.getElem_mem hi'))
  cases hi:isE st e with
  |false=>
   rw [hi] at hplace hput
   refine (ye v0 c0 c1 c2 c3 hc1 b off st.length cap news w (qC st e) hn hple hnl (by omega) hv0 hncell h1n hplace).mono ?_
   rintro en w' ⟨r,c,rfl,q1,q2,q3,q4,q5⟩
   exact fin w' r (st.length+1) c news (qC st e) hA (by rw [List.length_append,List.length_take,List.length_cons,List.length_drop];omega) q1 q2 q3 q4 hput q5
  |true=>
   rw [hi] at hplace hput
   have hlt:qC st e<st.length:=by
    rcases Nat.lt_or_ge (qC st e) st.length with h|h
    ·exact h
    ·rw [vg hs (by omega)] at hi;cases hi
   refine (yg v0 c0 c1 c2 c3 hc1 b off st.length cap news w (qC st e) hlt hnl (by omega) hv0 hncell h1n hplace).mono ?_
   rintro en w' ⟨r,c,rfl,q1,q2,q3,q4,q5⟩
   exact fin w' r st.length c news (qC st e+1) hA (by rw [List.length_append,List.length_take,List.length_cons,List.length_drop];omega) q1 q2 q3 q4 hput q5
end Go.ST
end
noncomputable section
namespace Go.ST0
open Go Go.DL Go.Proofs
def c67:ba:=(.seq (.region [oo 3 (.box 1 (tm 1)),oo 4 (.mov (.const .nil))] []) (.seq (.region [mv 5 0,oo 6 (.call 86 [tm 5]),oo 7 (.mkfn 89 [tm 3]),oo 8 (.call 88 [(tm 6),(tm 7)]),mv 4 8] []) .ret))
theorem l67:(Try.f67.body.bind (bo Try.prog 9 []))=some c67:=by kernel_rfl
def c88:ba:=(.seq (.region [oo 4 (.mov (.const .nil))] []) (.seq (.region [mv 8 0,mv 9 1,oo 10 (.call 46 [(tm 8),(tm 9)]),mv 5 10] []) (.seq (.seq (.region [mv 11 5,oo 12 (.bin .eql (tm 11) (.const (.int .i64 (-1))))] []) (.cond (tm 12) (.seq (.region [mv 13 0,mv 4 13] []) .ret) .skip)) (.seq (.seq (.region [mv 14 5,oo 15 (.bin .add (tm 14) (Kc 1)),mv 6 15] []) (.block 0 (.loop (.seq (.seq (.region [mv 16 6,mv 17 0,ln 18 17,oo 19 (.bin .lss (tm 16) (tm 18))] []) (.cond (tm 19) .skip (.exit 0))) (.seq (.block 1 (.seq (.region [mv 22 0,mv 23 6,ix 24 4 22 23,lA 25 4 24,⟨some 7,.alloc [S0,.nil,Z0,Z0],none,[]⟩,o0 (.store 4 (tm 7) (tm 25))] []) (.seq (.region [mv 26 1,lA 27 4 7,oo 28 (.bO (tm 26) [tm 27]),oo 29 (.not (tm 28))] []) (.cond (tm 29) (.seq (.region [mv 30 0,mv 31 5,lA 32 4 7,ix 33 4 30 31,o0 (.store 4 (tm 33) (tm 32))] []) (.region [mv 34 5,oo 35 (.bin .add (tm 34) (Kc 1)),mv 5 35] [])) .skip)))) (.region [mv 20 6,oo 21 (.bin .add (tm 20) (Kc 1)),mv 6 21] [])))))) (.seq (.region [mv 36 0,mv 37 5,oo 38 (.slice 4 (tm 36) (some (tm 37)) none),⟨none,.clr 4 [S0,.nil,Z0,Z0] (tm 38),none,[]⟩] []) (.seq (.region [mv 39 0,mv 40 5,oo 41 (.slice 4 (tm 39) none (some (tm 40))),mv 4 41] []) .ret))))))
theorem l88:(Try.f88.body.bind (bo Try.prog 42 []))=some c88:=by kernel_rfl
end Go.ST0
end
section
namespace Go.ST
open Go Go.DL Go.MM Go.Proofs
open Go.TY hiding Fd
theorem xp:DCalls Try.prog 86 [esT []] (esT []):=by
 refine ⟨dD Try.func86 rfl rfl,fun S w vs hS hG hlen hrep=>?_⟩
 obtain ⟨v0,rfl⟩: ∃v0,vs=[v0]:=by
  match vs,hlen with
  |[a],_=>exact ⟨a,rfl⟩
 have r0:=hrep 0 v0 _ rfl rfl
 obtain ⟨a,cap,rfl⟩: ∃a cap,v0= .slice a 0 cap:=by
  cases r0 with
  |slice a b o len cap n xs g hl hc hu h1 ha hg h=>
   have:len=0:=by simpa using hl.symm
   subst this
   exact ⟨a,cap,rfl⟩
 refine (uA a cap w).mono ?_
 rintro e w' ⟨b,rfl,hw⟩
 refine ⟨_,rfl,?_,?_⟩
 ·rcases hw with rfl|rfl
  ·exact DL.Below.refl _ _
  ·exact (DL.Below.refl _ _).alloc (Nat.le_refl _) _
 ·exact Rep.slice b 0 0 0 0 4 [] (fun _=>undef) rfl (Nat.le_refl _) (by simp) (by simp) (by simp) (fun i hi=>by simp at hi) (fun i t ht=>by simp at ht)
theorem uk (x:RE) (f:FuncId) (c:T) (b:Bool) (hf:DCalls Try.prog f [qx x,c] (.bool b)):DCalls Try.prog 89 [qx x,.cptr [.clos f [c]] 0] (.bool !b):=by
 refine pN (rs:=[.tmp 3]) mixed Try.func89 l89 rfl rfl rfl (r:=[.bool _]) (nlZ rfl) ?_
 repeat' ((conv=>whnf);first|exact trivial|refine qk _ (hf) ?_|refine nT_ ?_|refine aE1 ?_|refine aE0 ?_|refine aN1 ?_|refine aN0 ?_|refine aD1 ?_|refine aD0 ?_|refine nE_ (fun hq=>?_) (fun hq=>?_)|refine nN_ (fun hq=>?_) (fun hq=>?_)|refine nD_ (fun hq=>?_) (fun hq=>?_)|refine rb1 ?_|refine rb0 ?_|refine rbx ?_|refine rix ?_|(refine And.intro (by first|exact qw _|fail) ?_)|refine aS ?_|fail)
theorem sH (st:List RE):chunk 4 st.length (st.flatMap qu)=st.map qx:=by
 induction st with
 |nil=>rfl
 |cons x xs ih=>
  rw [List.flatMap_cons,List.length_cons,List.map_cons]
  show DL.elemOf 4 (List.take 4 (qu x++xs.flatMap qu))::chunk 4 xs.length (List.drop 4 (qu x++xs.flatMap qu))=_
  rw [show List.drop 4 (qu x++xs.flatMap qu)=xs.flatMap qu from rfl,ih]
  rfl
theorem tV: ∀(n:Nat) (a b:List T),n * 4≤a.length→chunk 4 n (a++b)=chunk 4 n a:=by
 intro n
 induction n with
 |zero=>intro a b _;rfl
 |succ n ih=>
  intro a b h
  show DL.elemOf 4 ((a++b).take 4)::chunk 4 n ((a++b).drop 4)=DL.elemOf 4 (a.take 4)::chunk 4 n (a.drop 4)
  rw [List.take_append_of_le_length (by omega),List.drop_append_of_le_length (by omega),ih _ _ (by rw [List.length_drop];omega)]
theorem xN (st:List RE) (k:Nat) (hk:k≤st.length):chunk 4 k (st.flatMap qu)=(st.take k).map qx:=by
 have h:=tV
 have e:st.flatMap qu=(st.take k).flatMap qu++(st.drop k).flatMap qu:=by rw [← List.flatMap_append,List.take_append_drop]
 have hl:(st.take k).length=k:=by rw [List.length_take];omega
 rw [e,h k _ _ (by rw [qN,hl];omega)]
 have:=sH (st.take k)
 rwa [hl] at this
theorem vu {L:List RE} {j:Nat} (h:j<L.length):((L.flatMap qu).drop (j * 4)).take 4=qu L[j]:=by
 rw [← sk,List.drop_eq_getElem_cons h]
 rfl
theorem xd {L:List RE} {i:Nat} (h:i<L.length) (e:RE):aM (L.flatMap qu) (i * 4) 4 (qu e)=(L.set i e).flatMap qu:=by
 unfold aM
 rw [← sq,show i * 4+4=(i+1) * 4 by omega, ←sk,List.set_eq_take_append_cons_drop,if_pos h,List.flatMap_append,List.flatMap_cons]
theorem xZ {ks:List Nat} {bx:Nat→Option BX} {n off a b size:Nat} (h:a=b):LeV ks bx (.view n off a size) (.view n off b size):=by rw [h];exact .same _
theorem zS {ks:List Nat} {bx:Nat→Option BX} {n m:Nat} {ts us:List T} (h1:n=m) (h:ts=us):LeB ks bx (.d n ts) (some (.d m us)):=by rw [h,h1];exact .same _
theorem yA {L:List RE} {i n:Nat} (hi:i≤n) (hL:L.length=n):aM (L.flatMap qu) (i * 4) ((n - i) * 4) (List.replicate (n - i) [T.str ⟨#[]⟩,.nil,I 0,I 0]).flatten=(L.take i).flatMap qu++(List.replicate (n - i) [T.str ⟨#[]⟩,.nil,I 0,I 0]).flatten:=by
 unfold aM
 rw [← sq,List.drop_eq_nil_of_le (by rw [qN,hL];omega),List.append_nil]
theorem vC {α:Type} {p:α→Bool} {xs:List α} {i:Nat} (h:qZ p xs=i): ∀j (hj:j<xs.length),j<i→p xs[j]=false:=by
 unfold qZ at h
 cases hf:xs.findIdx? p with
 |none=>rw [hf] at h;dsimp only at h;omega
 |some k=>
  rw [hf] at h
  obtain ⟨h1,h2,h3⟩:=List.findIdx?_eq_some_iff_getElem.1 hf
  dsimp only at h
  intro j hj hji
  have:=h3 j (by omega)
  simpa using this
theorem xw (st:List RE) (hl:st.length<2^40) (f:FuncId) (c:T) (p:RE→Bool) (hf: ∀x∈st,DCalls Try.prog f [qx x,c] (.bool (p x))):
  DCalls Try.prog 67 [esT st,.clos f [c]] (esT (st.filter p)):=by
 have hix:=sW st 89 (.cptr [.clos f [c]] 0) (fun x=> !p x) (by omega) fun i h=>uk st[i] f c (p st[i]) (hf _ (List.getElem_mem h))
 rcases st with _|⟨x0,st0⟩
 ·refine pN (rs:=[.tmp 4]) mixed Try.func67 ST0.l67 rfl rfl rfl (r:=[.slice 4 _]) (nlZ rfl) ?_
  have hD:DCalls Try.prog 88 [esT [],.clos 89 [.cptr [.clos f [c]] 0]] (esT []):=by
   refine pN (rs:=[.tmp 4]) mixed Try.func88 ST0.l88 rfl rfl rfl (r:=[.slice 4 _]) (nlZ rfl) ?_
   have e:qZ (fun x=> !p x) ([]:List RE)= -1:=rfl
   rw [e] at hix
   repeat' ((conv=>whnf);first|exact trivial|refine qk _ (hix) ?_|refine nT_ ?_|refine aE1 ?_|refine aE0 ?_|refine aN1 ?_|refine aN0 ?_|refine aD1 ?_|refine aD0 ?_|refine nE_ (fun hq=>?_) (fun hq=>?_)|refine nN_ (fun hq=>?_) (fun hq=>?_)|refine nD_ (fun hq=>?_) (fun hq=>?_)|refine rb1 ?_|refine rb0 ?_|refine rbx ?_|refine rix ?_|refine aS ?_|fail)
  repeat' ((conv=>whnf);first|exact trivial|refine qk _ (xp) ?_|refine qk _ (hD) ?_|refine nT_ ?_|refine aE1 ?_|refine aE0 ?_|refine aN1 ?_|refine aN0 ?_|refine aD1 ?_|refine aD0 ?_|refine nE_ (fun hq=>?_) (fun hq=>?_)|refine nN_ (fun hq=>?_) (fun hq=>?_)|refine nD_ (fun hq=>?_) (fun hq=>?_)|refine rb1 ?_|refine rb0 ?_|refine rbx ?_|refine rix ?_|refine aS ?_|fail)
 generalize hst:x0::st0=st at *
 have hpos:0<st.length:=by rw [← hst];simp
 have hfl:0<((st.map qx).flatMap T.cells).length:=by rw [rQ,qN];omega
 refine pN (rs:=[.tmp 4]) mixed Try.func67 l67 rfl rfl rfl (r:=[.slice 4 _]) (nlZ rfl) ?_
 repeat' ((conv=>whnf);first|exact trivial|refine nT_ ?_|refine aE1 ?_|refine aE0 ?_|refine aN1 ?_|refine aN0 ?_|refine aD1 ?_|refine aD0 ?_|refine nE_ (fun hq=>?_) (fun hq=>?_)|refine nN_ (fun hq=>?_) (fun hq=>?_)|refine nD_ (fun hq=>?_) (fun hq=>?_)|refine rb1 ?_|refine rb0 ?_|refine rbx ?_|refine rix ?_|refine aS ?_|fail)
 refine qf mixed Try.func86 l86 rfl rfl (rs:=[.tmp 2]) rfl 500 (nlZ rfl) ?_
 have hap:4=4∧0<(st.map qx).length∧(st.map qx).length * 56≤140737488355328:=⟨rfl,by rw [List.length_map];exact hpos,by rw [List.length_map];omega⟩
 repeat' ((conv=>whnf);first|exact trivial|refine nT_ ?_|refine aE1 ?_|refine aE0 ?_|refine aN1 ?_|refine aN0 ?_|refine aD1 ?_|refine aD0 ?_|refine nE_ (fun hq=>?_) (fun hq=>?_)|refine nN_ (fun hq=>?_) (fun hq=>?_)|refine nD_ (fun hq=>?_) (fun hq=>?_)|refine rb1 ?_|refine rb0 ?_|refine rbx ?_|refine rix ?_|(refine And.intro (by first|exact hfl|exact hap|fail) ?_)|refine aS ?_|fail)
 refine ⟨_,rfl,?_⟩
 repeat' ((conv=>whnf);first|exact trivial|refine nT_ ?_|refine aE1 ?_|refine aE0 ?_|refine aN1 ?_|refine aN0 ?_|refine aD1 ?_|refine aD0 ?_|refine nE_ (fun hq=>?_) (fun hq=>?_)|refine nN_ (fun hq=>?_) (fun hq=>?_)|refine nD_ (fun hq=>?_) (fun hq=>?_)|refine rb1 ?_|refine rb0 ?_|refine rbx ?_|refine rix ?_|refine aS ?_|fail)
 refine qf mixed Try.func88 l88 rfl rfl (rs:=[.tmp 4]) rfl 700 (nlZ rfl) ?_
 have hcv0: ∀(bx:Nat→Option BX),bx 507=some (.d ((st.map qx).length * 4) ((st.map qx).flatMap T.cells))→conv bx (.view 507 0 (st.map qx).length 4)=some (esT st,[507]):=fun bx hb=>by
  have:conv bx (.view 507 0 (st.map qx).length 4)=(match bx 507 with|some (.d m ts)=>cond (Nat.blt 0 4&&Nat.ble (0+(st.map qx).length * 4) m) (some (T.slice 4 (chunk 4 (st.map qx).length (ts.drop 0)),[507])) none|_=>none):=rfl
  rw [this,hb]
  simp only
  have h1:Nat.ble (0+(st.map qx).length * 4) ((st.map qx).length * 4)=true:=Nat.ble_eq_true_of_le (by omega)
  rw [h1,List.drop_zero,rQ,List.length_map,sH]
  rfl
 have hcv: ∀(bx:Nat→Option BX) (L:List RE) (k:Nat),bx 507=some (.d (st.length * 4) (L.flatMap qu))→L.length=st.length→k≤L.length→conv bx (.view 507 0 k 4)=some (esT (L.take k),[507]):=fun bx L k hb hL hk=>by
  have:conv bx (.view 507 0 k 4)=(match bx 507 with|some (.d m ts)=>cond (Nat.blt 0 4&&Nat.ble (0+k * 4) m) (some (T.slice 4 (chunk 4 k (ts.drop 0)),[507])) none|_=>none):=rfl
  rw [this,hb]
  simp only
  have h1:Nat.ble (0+k * 4) (st.length * 4)=true:=Nat.ble_eq_true_of_le (by omega)
  rw [h1,List.drop_zero,xN L k hk]
  rfl
 conv=>whnf
 split
 ·rename_i ts heq
  have e:=heq.symm.trans (pM (hcv0 _ rfl) rfl)
  cases e
 rotate_left
 ·rename_i heq
  have e:=heq.symm.trans (pM (hcv0 _ rfl) rfl)
  cases e
 rename_i ts r0 rs heq
 have e:=heq.symm.trans (pM (hcv0 _ rfl) rfl)
 cases e
 refine ⟨_,hix,rfl,?_⟩
 clear heq
 rcases sL (fun x=> !p x) st with ⟨hx,hno⟩|⟨k,hk,hx,hfd⟩
 ·have hfil:st.filter p=st:=by
   rw [List.filter_eq_self]
   intro x hx
   have:=List.find?_eq_none.1 hno x hx
   simpa using this
  rw [hfil]
  have hE:qZ (fun x=> !p x) st= -1:=hx
  repeat' ((conv=>whnf);first|exact trivial|refine py hE ?_|refine nT_ ?_|refine aE1 ?_|refine aE0 ?_|refine aN1 ?_|refine aN0 ?_|refine aD1 ?_|refine aD0 ?_|refine nE_ (fun hq=>?_) (fun hq=>?_)|refine nN_ (fun hq=>?_) (fun hq=>?_)|refine nD_ (fun hq=>?_) (fun hq=>?_)|refine rb1 ?_|refine rb0 ?_|refine rbx ?_|refine rix ?_|refine aS ?_|fail)
  refine ⟨_,rfl,?_⟩
  repeat' ((conv=>whnf);first|exact trivial|refine nT_ ?_|refine aE1 ?_|refine aE0 ?_|refine aN1 ?_|refine aN0 ?_|refine aD1 ?_|refine aD0 ?_|refine nE_ (fun hq=>?_) (fun hq=>?_)|refine nN_ (fun hq=>?_) (fun hq=>?_)|refine nD_ (fun hq=>?_) (fun hq=>?_)|refine rb1 ?_|refine rb0 ?_|refine rbx ?_|refine rix ?_|refine aS ?_|fail)
  refine ⟨?_,trivial⟩
  have hr0: ∀bx:Nat→Option BX,bx 507=some (.d ((st.map qx).length * 4) ((st.map qx).flatMap T.cells))→Option.map (fun x=>x.1) (lZ bx (.view 507 0 (st.map qx).length 4))=some (esT st):=fun bx hb=>congrArg (Option.map Prod.fst) (hcv0 bx hb)
  refine hr0 _ ?_
  rfl
 ·have hkp:p st[k]=false:=by simpa using List.find?_some hfd
  have hbef:(st.take (k+1)).filter p=st.take k:=by
   rw [List.take_succ_eq_append_getElem hk,List.filter_append]
   have h1:(st.take k).filter p=st.take k:=by
    rw [List.filter_eq_self]
    intro x hxm
    obtain ⟨j,hj,rfl⟩:=List.getElem_of_mem hxm
    rw [List.length_take] at hj
    rw [List.getElem_take]
    have:=vC hx j (by omega) (by omega)
    simpa using this
   rw [h1];simp [hkp]
  have hE:qZ (fun x=> !p x) st≠ -1:=by rw [hx];omega
  have hA:((k:Nat):Int)=qZ (fun x=> !p x) st:=hx.symm
  have hB:((k+1:Nat):Int)=IntKind.wrap .i64 (qZ (fun x=> !p x) st+1):=by rw [hx,lS] <;> omega
  have hLm:st.length=(st.map qx).length:=by rw [List.length_map]
  have hLn:st.length * 4=(st.map qx).length * 4:=by rw [List.length_map]
  have hcl: ∀x∈st,DCalls Try.prog 89 [qx x,.cptr [.clos f [c]] 0] (.bool !(p x)):=fun x hx=>uk x f c (p x) (hf x hx)
  repeat' ((conv=>whnf);first|exact trivial|refine px hE ?_|refine nT_ ?_|refine aE1 ?_|refine aE0 ?_|refine aN1 ?_|refine aN0 ?_|refine aD1 ?_|refine aD0 ?_|refine nE_ (fun hq=>?_) (fun hq=>?_)|refine nN_ (fun hq=>?_) (fun hq=>?_)|refine nD_ (fun hq=>?_) (fun hq=>?_)|refine rb1 ?_|refine rb0 ?_|refine rbx ?_|refine rix ?_|refine aS ?_|fail)
  refine pX 0 (α:=Nat×Nat×List RE) (β:=Nat×List RE) (fun q=>{sl:=[(0,.view 507 0 st.length 4),(1,.fn 89 [.ptr 3 0]),(5,.t (I q.1)),(6,.t (I ((q.2.1+1:Nat):Int)))],bx:=[(3,.d 1 [.clos f [c]]),(507,.d (st.length * 4) (q.2.2.flatMap qu))],gh:=[],off:=700})
   (fun q=>q.1<q.2.1+1∧q.2.1+1≤st.length∧q.2.2.length=st.length∧q.2.2.take q.1=(st.take (q.2.1+1)).filter p∧q.2.2.drop (q.2.1+1)=st.drop (q.2.1+1)) (fun q=>st.length - q.2.1)
   (fun q=>{sl:=[(0,.view 507 0 st.length 4),(5,.t (I q.1))],bx:=[(507,.d (st.length * 4) (q.2.flatMap qu))],gh:=[],off:=700}) (fun q=>q.1<st.length∧q.2.length=st.length∧q.2.take q.1=st.filter p) (k,k,st) ⟨Nat.lt_succ_self k,hk,rfl,hbef.symm,rfl⟩ ?_ ?_ ?_
  ·repeat' (first|(exact leI hA)|(exact leI hB)|(exact xZ hLm)|(exact zS hLn (rQ st).symm)|exact trivial|exact LeV.same _|exact LeB.same _|exact rfl|exact fun _ _ _=>trivial|exact lI|exact LeV.nil _ _ _|exact lB|refine qq ?_|refine qo ?_|refine And.intro ?_ ?_)
  ·rintro ⟨i,j',L⟩ ⟨q1,q2,q3,q4,q5⟩
   dsimp only at q1 q2 q3 q4 q5
   rcases Nat.lt_or_ge (j'+1) st.length with hj|hj
   ·have hlt:((j'+1:Nat):Int)<(st.length:Int):=by omega
    have hjL:j'+1<L.length:=by omega
    have hxL:L[j'+1]=st[j'+1]:=by
     have e:L[j'+1]? =st[j'+1]? :=by have:=congrArg List.head? q5;simpa [List.head?_drop] using this
     rw [ggZ hjL,ggZ hj] at e
     exact Option.some.inj e
    have hget:T.agg (((L.flatMap qu).drop (0+((j'+1:Nat):Int).toNat * 4)).take 4)= .agg (qu st[j'+1]):=by
     rw [Int.toNat_natCast,Nat.zero_add,vu hjL,hxL]
    have hcall:=hcl st[j'+1] (List.getElem_mem hj)
    have hff:(st.take (j'+1+1)).filter p=L.take i++(if p st[j'+1] then [st[j'+1]] else []):=by
     rw [List.take_succ_eq_append_getElem hj,List.filter_append,q4]
     cases h:p st[j'+1] <;> simp [h]
    have hnext:L.drop (j'+1+1)=st.drop (j'+1+1):=by
     rw [List.drop_eq_getElem_cons hjL,List.drop_eq_getElem_cons hj] at q5
     exact (List.cons.inj q5).2
    have hJ:((j'+1+1:Nat):Int)=IntKind.wrap .i64 (((j'+1:Nat):Int)+1):=by rw [lS] <;> omega
    have hI:((i+1:Nat):Int)=IntKind.wrap .i64 ((i:Int)+1):=by rw [lS] <;> omega
    generalize hxx:st[j'+1]=x at *
    cases hp:p x with
    |false=>
     rw [hp] at hff hcall
     repeat' ((conv=>whnf);first|exact trivial|refine pt hlt ?_|(refine nv_ (.agg (qu x)) (by first|exact hget|fail) ?_)|refine ⟨_,hcall,rfl,?_⟩|refine nT_ ?_|refine aE1 ?_|refine aE0 ?_|refine aN1 ?_|refine aN0 ?_|refine aD1 ?_|refine aD0 ?_|refine nE_ (fun hq=>?_) (fun hq=>?_)|refine nN_ (fun hq=>?_) (fun hq=>?_)|refine nD_ (fun hq=>?_) (fun hq=>?_)|refine rb1 ?_|refine rb0 ?_|refine rbx ?_|refine rix ?_|(refine And.intro (by first|exact qw _|((simp;omega);done)|fail) ?_)|refine aS ?_|fail)
     exact ⟨(i,j'+1,L),⟨by dsimp only;omega,hj,q3,by rw [hff];simp,hnext⟩,by dsimp only;omega,by repeat' (first|(exact leI hJ)|exact trivial|exact LeV.same _|exact LeB.same _|exact rfl|exact fun _ _ _=>trivial|exact lI|exact LeV.nil _ _ _|exact lB|refine qq ?_|refine qo ?_|refine And.intro ?_ ?_)⟩
    |true=>
     rw [hp] at hff hcall
     have hi:i<L.length:=by omega
     have hset:=xd hi x
     have hset':(L.set i x).flatMap qu=aM (L.flatMap qu) (0+((i:Nat):Int).toNat * 4) 4 (qu x):=by rw [Int.toNat_natCast,Nat.zero_add,hset]
     have hst4:(aM [T.str ⟨#[]⟩,.nil,I 0,I 0] 0 4 (qu x)).length=4∧0+((i:Nat):Int).toNat * 4+4≤st.length * 4:=⟨rfl,by rw [Int.toNat_natCast];omega⟩
     repeat' ((conv=>whnf);first|exact trivial|refine pt hlt ?_|(refine nv_ (.agg (qu x)) (by first|exact hget|fail) ?_)|refine ⟨_,hcall,rfl,?_⟩|refine nT_ ?_|refine aE1 ?_|refine aE0 ?_|refine aN1 ?_|refine aN0 ?_|refine aD1 ?_|refine aD0 ?_|refine nE_ (fun hq=>?_) (fun hq=>?_)|refine nN_ (fun hq=>?_) (fun hq=>?_)|refine nD_ (fun hq=>?_) (fun hq=>?_)|refine rb1 ?_|refine rb0 ?_|refine rbx ?_|refine rix ?_|(refine And.intro (by first|exact qw _|exact hst4|((simp;omega);done)|fail) ?_)|refine aS ?_|fail)
     refine ⟨(i+1,j'+1,L.set i x),⟨by dsimp only;omega,hj,by simpa using q3,?_,?_⟩,by dsimp only;omega,by repeat' (first|(exact leI hJ)|(exact leI hI)|(exact qq hset')|exact trivial|exact LeV.same _|exact LeB.same _|exact rfl|exact fun _ _ _=>trivial|exact lI|exact LeV.nil _ _ _|exact lB|refine qq ?_|refine qo ?_|refine And.intro ?_ ?_)⟩
     ·rw [hff,List.take_set,List.take_succ_eq_append_getElem hi,List.set_append_right _ _ (by simp;omega)]
      simp [List.length_take,Nat.min_eq_left (Nat.le_of_lt hi)]
     ·show (L.set i x).drop (j'+1+1)=_
      rw [List.drop_set_of_lt (by omega)]
      exact hnext
   ·have hlt: ¬((j'+1:Nat):Int)<(st.length:Int):=by omega
    have hj2:j'+1=st.length:=by omega
    rw [hj2,List.take_length] at q4
    repeat' ((conv=>whnf);first|exact trivial|refine pq hlt ?_|refine nT_ ?_|refine aE1 ?_|refine aE0 ?_|refine aN1 ?_|refine aN0 ?_|refine aD1 ?_|refine aD0 ?_|refine nE_ (fun hq=>?_) (fun hq=>?_)|refine nN_ (fun hq=>?_) (fun hq=>?_)|refine nD_ (fun hq=>?_) (fun hq=>?_)|refine rb1 ?_|refine rb0 ?_|refine rbx ?_|refine rix ?_|refine aS ?_|fail)
    exact ⟨(i,L),⟨by dsimp only;omega,q3,q4⟩,by repeat' (first|exact trivial|exact LeV.same _|exact LeB.same _|exact rfl|exact fun _ _ _=>trivial|exact lI|exact LeV.nil _ _ _|exact lB|refine qq ?_|refine qo ?_|refine And.intro ?_ ?_)⟩
  ·rintro ⟨i,L⟩ ⟨q1,q3,q4⟩
   dsimp only at q1 q3 q4
   have hz:aM (L.flatMap qu) (0+((i:Nat):Int).toNat * 4) ((((st.length:Nat):Int).toNat - ((i:Nat):Int).toNat) * 4) (List.replicate (((st.length:Nat):Int).toNat - ((i:Nat):Int).toNat) [T.str ⟨#[]⟩,.nil,I 0,I 0]).flatten=(L.take i).flatMap qu++(List.replicate (st.length - i) [T.str ⟨#[]⟩,.nil,I 0,I 0]).flatten:=by
    rw [Int.toNat_natCast,Int.toNat_natCast,Nat.zero_add]
    exact yA (by omega) q3
   have hr1: ∀bx:Nat→Option BX,bx 507=some (.d (st.length * 4) (aM (L.flatMap qu) (0+((i:Nat):Int).toNat * 4) ((((st.length:Nat):Int).toNat - ((i:Nat):Int).toNat) * 4) (List.replicate (((st.length:Nat):Int).toNat - ((i:Nat):Int).toNat) [T.str ⟨#[]⟩,.nil,I 0,I 0]).flatten))→Option.map (fun x=>x.1) (lZ bx (.view 507 0 i 4))=some (esT (st.filter p)):=fun bx hb=>by
    have h0:lZ bx (.view 507 0 i 4)=(match bx 507 with|some (.d m ts)=>cond (Nat.blt 0 4&&Nat.ble (0+i * 4) m) (some (T.slice 4 (chunk 4 i (ts.drop 0)),[507])) none|_=>none):=rfl
    rw [h0,hb]
    simp only
    have h1:Nat.ble (0+i * 4) (st.length * 4)=true:=Nat.ble_eq_true_of_le (by omega)
    have hl2:(L.take i).length=i:=by rw [List.length_take];omega
    have h2:=sH (L.take i)
    rw [hl2] at h2
    rw [h1,List.drop_zero,hz,tV i _ _ (by rw [qN,hl2];omega),h2,q4]
    rfl
   refine And.intro (by dsimp only;simp only [Int.toNat_natCast];omega) ?_
   conv=>whnf
   refine And.intro (by dsimp only;omega) ?_
   conv=>whnf
   refine And.intro (by dsimp only;omega) ?_
   conv=>whnf
   refine ⟨_,rfl,?_⟩
   conv=>whnf
   refine And.intro ?_ trivial
   refine hr1 _ ?_
   rfl
end Go.ST
end
section
namespace Go.ST1
open Go Go.DL Go.Proofs
noncomputable def c43:ba:=(.seq (.cut (.region [oo 3 (.box 1 (tm 1)),oo 4 (.mov (.const .nil))] [])) (.seq (.region [mv 5 0,oo 6 (.mkfn 68 [tm 3]),oo 7 (.call 67 [(tm 5),(tm 6)]),mv 4 7] []) .ret))
theorem l43:(Try.f43.body.bind (bo Try.prog 8 [6000000]))=some c43:=by kernel_rfl
end Go.ST1
end
section
namespace Go.ST
open Go Go.DL Go.MM Go.Proofs
open Go.TY hiding Fd
theorem zG (x:RE) (v:ByteArray):DCalls Try.prog 68 [qx x,.cptr [.str v] 0] (.bool (decide (x.var=v))):=by
 refine pN (rs:=[.tmp 3]) mixed Try.func68 l68 rfl rfl rfl (r:=[.bool _]) (nlZ rfl) ?_
 have h:=eqS x.var v
 repeat' ((conv=>whnf);first|exact trivial|refine nb_ _ h ?_|refine nT_ ?_|refine aE1 ?_|refine aE0 ?_|refine aN1 ?_|refine aN0 ?_|refine aD1 ?_|refine aD0 ?_|refine nE_ (fun hq=>?_) (fun hq=>?_)|refine nN_ (fun hq=>?_) (fun hq=>?_)|refine nD_ (fun hq=>?_) (fun hq=>?_)|refine rb1 ?_|refine rb0 ?_|refine rbx ?_|refine rix ?_|(refine And.intro (by first|exact qw _|fail) ?_)|refine aS ?_|fail)
theorem Aq (st:List RE) (v:ByteArray) (hl:st.length<2^40):DCalls Try.prog 43 [esT st,.str v] (esT (ofE st v)):=by
 refine pN (rs:=[.tmp 4]) mixed Try.func43 Go.ST1.l43 rfl rfl rfl (r:=[.slice 4 _]) (nlZ rfl) ?_
 have h:=xw st hl 68 (.cptr [.str v] 0) (fun e=>decide (e.var=v)) fun x _=>zG x v
 refine qe (β:=Unit) (fun _=>{sl:=[(0,.t (esT st)),(3,.t (.cptr [.str v] 0))],bx:=[]}) (fun _=>True) ?_ ?_
 ·repeat' ((conv=>whnf);first|exact trivial|(exact ⟨(),trivial,by (repeat' (first|(exact LeV.conv _ _ _ rfl (fun n _ hk=>absurd (show n∈([]:List Nat) from hk) (by simp)))|exact trivial|exact LeV.same _|exact LeB.same _|exact rfl|exact fun _ _ _=>trivial|exact lI|exact LeV.nil _ _ _|exact lB|refine qq ?_|refine qo ?_|refine And.intro ?_ ?_));done⟩)|refine nT_ ?_|refine aE1 ?_|refine aE0 ?_|refine aN1 ?_|refine aN0 ?_|refine aD1 ?_|refine aD0 ?_|refine nE_ (fun hq=>?_) (fun hq=>?_)|refine nN_ (fun hq=>?_) (fun hq=>?_)|refine nD_ (fun hq=>?_) (fun hq=>?_)|refine rb1 ?_|refine rb0 ?_|refine rbx ?_|refine rix ?_|refine aS ?_|fail)
 rintro _ _
 repeat' ((conv=>whnf);first|exact trivial|refine qk _ (h) ?_|refine nT_ ?_|refine aE1 ?_|refine aE0 ?_|refine aN1 ?_|refine aN0 ?_|refine aD1 ?_|refine aD0 ?_|refine nE_ (fun hq=>?_) (fun hq=>?_)|refine nN_ (fun hq=>?_) (fun hq=>?_)|refine nD_ (fun hq=>?_) (fun hq=>?_)|refine rb1 ?_|refine rb0 ?_|refine rbx ?_|refine rix ?_|refine aS ?_|fail)
end Go.ST
end
section
namespace Go.Proofs
open Go.Shelf
def Try.tJ:Go.Shelf.Ren:=⟨fun|4=>56|n=>n,fun|22=>28|25=>39|3=>3|4=>4|9=>9|20=>20|0=>0|n=>n,fun|n=>n⟩
theorem Try.tk:Go.Proofs.Lays8.n4 Try.prog Try.tJ:={
 mixed:=by kernel_rfl
 f4:=⟨Try.f56.name,by decide,Try.func56.trans (congrArg some (by kernel_rfl))⟩
 t0:=Try.underlying0
 a0:=Try.isAgg0
 z0:=Try.sizeOf0
 v0:=Try.zeroValue0
 t3:=Try.underlying3
 a3:=Try.isAgg3
 z3:=Try.sizeOf3
 v3:=Try.zeroValue3
 t4:=Try.underlying4
 a4:=Try.isAgg4
 z4:=Try.sizeOf4
 v4:=Try.zeroValue4
 t9:=Try.underlying9
 a9:=Try.isAgg9
 z9:=Try.sizeOf9
 v9:=Try.zeroValue9
 t20:=Try.underlying20
 a20:=Try.isAgg20
 z20:=Try.sizeOf20
 v20:=Try.zeroValue20
 t22:=Try.underlying28
 a22:=Try.isAgg28
 z22:=Try.sizeOf28
 v22:=Try.zeroValue28 }
end Go.Proofs
end
section
namespace Go.ST
open Go Go.DL Go.MM Go.Proofs Go.Shelf Go.RowKit
theorem ym (w:World) (p:Option Addr) (n c:Nat) (news:List Value) (hl:news.length=n * 4) (hp:p=none→n=0) (hc: ∀a,p=some a→ ∀(j:Nat) (u:Value),news[j]? =some u→w.cell? (a.add j)=some u) (h1: ∀u∈news,u.oneCell'=true):
  Src Try.prog 4 28 (.slice p n c) n news w:=by
 cases p with
 |none=>
  have:=hp rfl
  subst this
  have:news=[]:=List.eq_nil_of_length_eq_zero (by omega)
  subst this
  exact Src.ofNil w qG c
 |some a=>exact Src.ofSlice w qG a n c news hl (hc a rfl) h1
theorem zt (w:World):Calls Try.prog 56 #[.slice none 0 0,.int .i64 0] w fun e w'=>e= .returned (.slice none 0 0)∧w'=w:=
 Any8.slices_Grow_room Try.tk none 0 0 0 w (Nat.le_refl _) (by omega) (by omega) (by omega)
theorem zu (w:World) (n:Nat) (m:Int) (hm:m=n) (h:0<n) (hb:n<2^40):Calls Try.prog 56 #[.slice none 0 0,.int .i64 m] w fun e w'=> ∃G,n≤G∧e= .returned (.slice (some ⟨w.heap.size,0,none⟩) 0 G)∧w'=w.drew.alloc (.cells (qy n++qy (G - n)) 39):=by
 subst hm
 obtain ⟨i0,hi,hz0,hz1,hz2⟩:=info_parts rS
 refine (Any8.slices_Grow_grow Try.tk i0 zeV hi hz0 (by omega) none 0 0 n [] w (Nat.le_refl _) (by omega) (by rw [hz2];omega) (by omega) (by simp) (fun _=>rfl) (fun a h=>by cases h)).mono ?_
 rintro e w' ⟨rfl,rfl⟩
 refine ⟨_,Nat.le_trans (Nat.le_of_eq (Nat.zero_add n).symm) (grownCap_ge _ _ _ _),rfl,?_⟩
 simp
 rfl
theorem ui (w:World) (ty:TypeId) (g n G m:Nat) (x:Value) (news:List Value) (hs:Src Try.prog 4 28 x m news w) (hroom:n+m≤G) (hc: ∀j,j<G * 4→(w.cell? ⟨g,j,none⟩).isSome=true) (hf: ∀j,w.frozen? ⟨g,j,none⟩=false):
  (Builtin.append_ #[28,28] ty #[.slice (some ⟨g,0,none⟩) n G,x]).run Try.prog w= .ok (.slice (some ⟨g,0,none⟩) (n+m) G) (w.setCells g (n * 4) news):=by
 obtain ⟨i0,hi,hz0,hz1,hz2⟩:=info_parts rS
 have:=run_append_room_src (P:=Try.prog) w 28 28 ty 39 i0 qG hi g 0 n G x m news (by rw [hz1];exact hs) hroom (fun j hj=>by rw [hz1];exact hc _ (by have:=hs.newsLen;omega)) (fun j _=>hf _)
 rw [hz1,Nat.zero_add] at this
 exact this
theorem xQ (W:World) (vb cap na ca nb cb:Nat) (pa pb:Option Addr) (A B:List Value) (k0:W.cell? ⟨vb,0,none⟩=some (.slice pa na ca)) (k1:W.cell? ⟨vb,1,none⟩=some (.slice pb nb cb)) (hna:na<2^30) (hnb:nb<2^30)
  (sA: ∀w',DL.Below W.heap.size W w'→Src Try.prog 4 28 (.slice pa na ca) na A w') (sB: ∀w',DL.Below W.heap.size W w'→Src Try.prog 4 28 (.slice pb nb cb) nb B w') (h0:0<na+nb):
  Calls Try.prog 33 #[.slice (some ⟨vb,0,none⟩) 2 cap] W fun e w'=> ∃G,na+nb≤G∧e= .returned (.slice (some ⟨W.heap.size,0,none⟩) (na+nb) G)∧
   w'=((W.drew.alloc (.cells (qy (na+nb)++qy (G - (na+nb))) 39)).setCells W.heap.size 0 A).setCells W.heap.size (na * 4) B:=by
 have q22:=nil_eq
 have u22: ∀w,Sem.run Try.prog (underlying 28) w= .ok (TypeDesc.slice 39) w:=run_underlying qG
 have mx:=mixed
 have w1:wrap64 (na:Int)=na:=by unfold wrap64;omega
 have w2:wrap64 ((na:Int)+nb)=((na+nb:Nat):Int):=by unfold wrap64;omega
 have n1: ¬((na:Int)<0):=by omega
 have n2: ¬(((na+nb:Nat):Int)<0):=by omega
 have hsz0:W.drew.heap.size=W.heap.size:=rfl
 have hB1: ∀G,DL.Below W.heap.size W (W.drew.alloc (.cells (qy (na+nb)++qy (G - (na+nb))) 39)):=fun G=>((DL.Below.refl _ _).drew).alloc (Nat.le_refl _) _
 have hbv:vb<W.heap.size:=block_lt_of_cell k0
 have hk0: ∀w',DL.Below W.heap.size W w'→w'.cell? ⟨vb,0,none⟩=some (.slice pa na ca):=fun w' h=>by rw [h.toBelow.cell (p:=⟨vb,0,none⟩) hbv];exact k0
 have hk1: ∀w',DL.Below W.heap.size W w'→w'.cell? ⟨vb,1,none⟩=some (.slice pb nb cb):=fun w' h=>by rw [h.toBelow.cell (p:=⟨vb,1,none⟩) hbv];exact k1
 have hzl: ∀k,(qy k).size=k * 4:=fun k=>by simp [qy,Builtin.zeroCells,Value.cells]
 have c1: ∀G,na+nb≤G→ ∀j,j<G * 4→((W.drew.alloc (.cells (qy (na+nb)++qy (G - (na+nb))) 39)).cell? ⟨W.heap.size,j,none⟩).isSome=true:=fun G hG j hj=>by
  rw [World.cell?_alloc_at (w:=W.drew) _ _ W.heap.size j rfl,Array.getElem?_eq_getElem (by rw [Array.size_append,hzl,hzl];omega)];rfl
 have f1: ∀G j,(W.drew.alloc (.cells (qy (na+nb)++qy (G - (na+nb))) 39)).frozen? ⟨W.heap.size,j,none⟩=false:=fun G j=>World.frozen?_alloc_at (w:=W.drew) _ _ W.heap.size j rfl
 go_enter Try.func33,Try.ntmps33
 go_wp2
 refine wp_loop_rounds 3 ?_
 rw [rounds_succ]
 go_wp2
 rw [rounds_succ]
 go_wp2
 rw [rounds_succ]
 go_wp2_with (go_at_call 56;refine (zu W (na+nb) _ (by omega) h0 (by omega)).mono ?_;rintro e w' ⟨G,hG,rfl,hw'⟩;have AW:Aside (w'=W.drew.alloc (.cells (qy (na+nb)++qy (G - (na+nb))) 39)):=hw';clear hw')
 have hw':=AW.out
 have hB:=hB1 G
 have hC:=c1 G hG
 have hF:=f1 G
 rw [← hw'] at hB hC hF
 have hC2: ∀j,j<G * 4→((w'.setCells W.heap.size 0 A).cell? ⟨W.heap.size,j,none⟩).isSome=true:=fun j hj=>by
  have hAl:=(sA W (DL.Below.refl _ _)).newsLen
  exact qS _ A 0 w' (fun t ht=>by rw [Nat.zero_add];exact hC t (by omega)) j (hC j hj)
 have hB2:DL.Below W.heap.size W (w'.setCells W.heap.size 0 A):=qF _ (Nat.le_refl _) _ _ _ hB
 have r1:=fun ty=>ui w' ty W.heap.size 0 G na (.slice pa na ca) A (sA w' hB) (by omega) hC hF
 have r2:=fun ty=>ui (w'.setCells W.heap.size 0 A) ty W.heap.size na G nb (.slice pb nb cb) B (sB _ hB2) (by omega) hC2 (fun j=>by rw [World.frozen?_setCells];exact hF j)
 have q0:=hk0 w' hB
 have q1:=hk1 _ hB2
 simp only [Nat.zero_add,Nat.zero_mul] at r1
 clear hw' hB hB2 hC hC2 hF hB1 c1 f1 hk0 hk1 sA sB k0 k1
 obtain ⟨W2,hW2⟩: ∃W2,W2=w'.setCells W.heap.size 0 A:=⟨_,rfl⟩
 rw [← hW2] at r1 r2 q1
 have A2:Aside (W2=w'.setCells W.heap.size 0 A):=hW2
 clear hW2
 refine wp_loop_rounds 3 ?_
 rw [rounds_succ]
 go_wp2_with (at_builtin;refine Lib.wpList_append_run _ rfl _ _ _ _ rfl _ _ rfl rfl _ _ (r1 _) ?_)
 rw [rounds_succ]
 go_wp2_with (at_builtin;refine Lib.wpList_append_run _ rfl _ _ _ _ rfl _ _ rfl rfl _ _ (r2 _) ?_)
 rw [rounds_succ]
 go_wp2
 go_ret
 exact ⟨G,hG,rfl,by rw [A2.out,AW.out]⟩
theorem uP (w:World) (ty:TypeId) (x:Value) (hs:Src Try.prog 4 28 x 0 [] w):(Builtin.append_ #[28,28] ty #[.slice none 0 0,x]).run Try.prog w= .ok (.slice none 0 0) w:=by
 obtain ⟨i0,hi,hz0,hz1,hz2⟩:=info_parts rS
 have h4:=hs.cells
 have h5:=hs.cellsD
 rcases hs.kind with ⟨e',hk⟩|hk <;> simp [Builtin.append_,run_underlying qG,sizeOf,typeInfo,hi,hz1,hs.len,h4]
theorem xP (W:World) (vb cap ca cb:Nat) (pa pb:Option Addr) (k0:W.cell? ⟨vb,0,none⟩=some (.slice pa 0 ca)) (k1:W.cell? ⟨vb,1,none⟩=some (.slice pb 0 cb))
  (sA:Src Try.prog 4 28 (.slice pa 0 ca) 0 [] W) (sB:Src Try.prog 4 28 (.slice pb 0 cb) 0 [] W):
  Calls Try.prog 33 #[.slice (some ⟨vb,0,none⟩) 2 cap] W fun e w'=>e= .returned (.slice none 0 0)∧w'=W:=by
 have q22:=nil_eq
 have u22: ∀w,Sem.run Try.prog (underlying 28) w= .ok (TypeDesc.slice 39) w:=run_underlying qG
 have mx:=mixed
 have r1:=fun ty=>uP W ty _ sA
 have r2:=fun ty=>uP W ty _ sB
 go_enter Try.func33,Try.ntmps33
 go_wp2
 refine wp_loop_rounds 3 ?_
 rw [rounds_succ]
 go_wp2
 rw [rounds_succ]
 go_wp2
 rw [rounds_succ]
 go_wp2_with (go_at_call 56;refine (zt W).mono ?_;rintro e w' ⟨rfl,rfl⟩)
 refine wp_loop_rounds 3 ?_
 rw [rounds_succ]
 go_wp2_with (at_builtin;refine Lib.wpList_append_run _ rfl _ _ _ _ rfl _ _ rfl rfl _ _ (r1 _) ?_)
 rw [rounds_succ]
 go_wp2_with (at_builtin;refine Lib.wpList_append_run _ rfl _ _ _ _ rfl _ _ rfl rfl _ _ (r2 _) ?_)
 rw [rounds_succ]
 go_wp2
 go_ret
 exact ⟨rfl,rfl⟩
end Go.ST
end
section
namespace Go.ST
open Go Go.DL Go.MM Go.Proofs
theorem rM (b:Nat) (e:TypeId) (s:Nat×Nat): ∀(vs:List Value) (o:Nat) (w:World) (c:Array Value),w.heap[b]? =some (.cells c e s)→ ∃c',(w.setCells b o vs).heap[b]? =some (.cells c' e s)∧c'.size=c.size
 |[],_,_,c,h=>⟨c,h,rfl⟩
 |v::vs,o,w,c,h=>by
  have h1:(w.setCell ⟨b,o,none⟩ v).heap[b]? =some (.cells (c.setIfInBounds o v) e s):=by
   unfold World.setCell
   simp [Array.getElem?_modify,h]
  obtain ⟨c',g1,g2⟩:=rM b e s vs (o+1) _ _ h1
  exact ⟨c',g1,by rw [g2,Array.size_setIfInBounds]⟩
theorem wC {S:aq} {w:World} {v:Value} {L:List RE} (h:Rep S w v (esT L)): ∃(a:Option Addr) (cap:Nat) (news:List Value),v= .slice a L.length cap∧news.length=L.length * 4∧(a=none→L.length=0)∧
  (∀ ad,a=some ad→ ∀(j:Nat) (u:Value),news[j]? =some u→w.cell? (ad.add j)=some u)∧Al (fun x t=>Rep S w x t) news (L.flatMap qu):=by
 cases h with
 |slice a b o len cap n xs g hl hc hu h1 ha hg h=>
  rw [rQ] at *
  have hlen:len=L.length:=by rw [← hl,List.length_map]
  subst hlen
  refine ⟨a,cap,(List.range (L.length * 4)).map g,rfl,by simp,fun hn=>?_,fun ad had j u hj=>?_,⟨by rw [qN];simp,fun i x t hx ht=>?_⟩⟩
  ·rcases Nat.eq_zero_or_pos L.length with h0|h0
   ·exact h0
   ·have:=ha (by rw [qN];omega)
    rw [hn] at this;cases this
  ·have hj':=(gsZ hj).1
   rw [List.length_map,List.length_range] at hj'
   have:=ha (by rw [qN];omega)
   rw [had] at this
   cases this
   rw [List.getElem?_map,List.getElem?_range hj'] at hj
   cases hj
   rw [Addr.add_lit]
   exact (hg j (by rw [qN];exact hj')).1
  ·have hi:=(gsZ hx).1
   rw [List.length_map,List.length_range] at hi
   rw [List.getElem?_map,List.getElem?_range hi] at hx
   cases hx
   exact h i t ht
theorem vU (a b:List RE) (ha:a.length<2^30) (hb:b.length<2^30) {st:St} {r d:Nat} {K:St→Prop} (hq:st.bx (d+st.off)=none) (hnil:a++b=[]→K (st.set (some d) (.t .nil)))
  (hk:0<(a++b).length→K ({st with bx:=upd st.bx (d+st.off) (some (.d ((a++b).length * 4) ((a++b).flatMap qu)))}.set (some d) (.view (d+st.off) 0 (a++b).length 4))):
  WC Try.prog 33 [.own r 28 1 [esT a,esT b]] (some d) st K:=by
 refine ⟨dD Try.func33 rfl rfl,fun N w0 S0 E t vs h hlen hv hd=>?_⟩
 have hsz:vs.size=1:=hlen
 have hvs:vs= #[vs[0]]:=by
  apply Array.ext
  ·simp [hsz]
  ·intro i h1 h2
   match i,h1 with
   |0,_=>rfl
   |i+1,h1=>omega
 have ho:=(hv 0 vs[0] _ (by simp [hsz]) rfl).eu
 generalize vs[0]=v0 at *
 subst hvs
 obtain ⟨cells,k1,k2,k3⟩:=ho.ex
 rcases k1.2 with ⟨rfl,hn⟩|⟨g,cap,cur,rfl,hbg,hg,hcap,hm,hs,htk⟩
 ·cases hn
 have hcl:cells.length=2:=k2
 obtain ⟨va,vb,rfl⟩: ∃va vb,cells=[va,vb]:=by
  match cells,hcl with
  |[x,y],_=>exact ⟨x,y,rfl⟩
 obtain ⟨pa,ca,A,rfl,hA1,hA2,hA3,hA4⟩:=wC (k3 0 va (esT a) rfl rfl)
 obtain ⟨pb,cb,B,rfl,hB1,hB2,hB3,hB4⟩:=wC (k3 1 vb (esT b) rfl rfl)
 have hc0:E.w.cell? ⟨g,0,none⟩=some (.slice pa a.length ca):=by
  rw [cell_of_row _ _ _ _ _ _ hg]
  have:=congrArg (fun l:List Value=>l[0]?) htk
  simpa using this
 have hc1:E.w.cell? ⟨g,1,none⟩=some (.slice pb b.length cb):=by
  rw [cell_of_row _ _ _ _ _ _ hg]
  have:=congrArg (fun l:List Value=>l[1]?) htk
  simpa using this
 have one: ∀{l:List Value} {L:List RE},Al (fun x t=>Rep E.S E.w x t) l (L.flatMap qu)→ ∀u∈l,u.oneCell'=true:=fun {l L} h u hu=>by
  obtain ⟨i,hi,rfl⟩:=List.getElem_of_mem hu
  have hi':i<(L.flatMap qu).length:=by rw [← h.len];exact hi
  exact (h.at_ i _ _ (ggZ hi) (ggZ hi')).one (uM L _ (List.getElem_mem hi'))
 have src: ∀{l:List Value} {L:List RE} {p:Option Addr} {c:Nat},l.length=L.length * 4→(p=none→L.length=0)→(∀ ad,p=some ad→ ∀(j:Nat) (u:Value),l[j]? =some u→E.w.cell? (ad.add j)=some u)→Al (fun x t=>Rep E.S E.w x t) l (L.flatMap qu)→ ∀w',DL.Below E.w.heap.size E.w w'→
   Src Try.prog 4 28 (.slice p L.length c) L.length l w':=fun h1 h2 h3 h4 w' hb=>ym w' _ _ _ _ h1 h2 (fun ad had j u hj=>by
  have:=h3 ad had j u hj
  have hlt:(ad.add j).block<E.w.heap.size:=block_lt_of_cell this
  rw [hb.toBelow.cell hlt];exact this) (one h4)
 rcases Nat.eq_zero_or_pos (a++b).length with h0|h0
 ·rw [List.length_append] at h0
  have ha0:a=[]:=List.eq_nil_of_length_eq_zero (by omega)
  have hb0:b=[]:=List.eq_nil_of_length_eq_zero (by omega)
  subst ha0;subst hb0
  have hA0:A=[]:=List.eq_nil_of_length_eq_zero hA1
  have hB0:B=[]:=List.eq_nil_of_length_eq_zero hB1
  have s1:=src hA1 hA2 hA3 hA4 (c:=ca) E.w (DL.Below.refl _ _)
  have s2:=src hB1 hB2 hB3 hB4 (c:=cb) E.w (DL.Below.refl _ _)
  rw [hA0] at s1;rw [hB0] at s2
  refine (xP E.w g cap ca cb pa pb hc0 hc1 s1 s2).mono ?_
  rintro e w' ⟨rfl,rfl⟩
  exact ⟨_,rfl,E,_,rfl,hnil rfl,ey h hd (.t _ _ .nil)⟩
 have hk:=hk h0
 rw [List.length_append] at h0
 refine (xQ E.w g cap a.length ca b.length cb pa pb A B hc0 hc1 ha hb (src hA1 hA2 hA3 hA4) (src hB1 hB2 hB3 hB4) h0).mono ?_
 rintro e w' ⟨G,hG,rfl,hw'⟩
 have hzl: ∀k,(qy k).size=k * 4:=fun k=>by simp [qy,Builtin.zeroCells,Value.cells]
 have hBl:DL.Below E.w.heap.size E.w w':=by
  rw [hw']
  exact qF _ (Nat.le_refl _) _ _ _ (qF _ (Nat.le_refl _) _ _ _ (((DL.Below.refl _ _).drew).alloc (Nat.le_refl _) _))
 obtain ⟨cur1,hcur1,hcs1⟩: ∃cur',w'.heap[E.w.heap.size]? =some (.cells cur' 39 (0,0))∧cur'.size=G * 4:=by
  obtain ⟨c1,g1,z1⟩:=rM E.w.heap.size 39 (0,0) A 0 (E.w.drew.alloc (.cells (qy (a.length+b.length)++qy (G - (a.length+b.length))) 39)) _ (heap_alloc_new E.w.drew _)
  obtain ⟨c2,g2,z2⟩:=rM E.w.heap.size 39 (0,0) B (a.length * 4) _ _ g1
  rw [hw']
  exact ⟨c2,g2,by rw [z2,z1,Array.size_append,hzl,hzl, ←Nat.add_mul];congr 1;omega⟩
 have hcell: ∀(j:Nat) (u:Value),(A++B)[j]? =some u→cur1[j]? =some u:=fun j u hu=>by
  have c1: ∀j,j<G * 4→((E.w.drew.alloc (.cells (qy (a.length+b.length)++qy (G - (a.length+b.length))) 39)).cell? ⟨E.w.heap.size,j,none⟩).isSome=true:=fun j hj=>by
   rw [World.cell?_alloc_at (w:=E.w.drew) _ _ E.w.heap.size j rfl,Array.getElem?_eq_getElem (by rw [Array.size_append,hzl,hzl];omega)];rfl
  rw [← cell_of_row _ _ _ _ _ _ hcur1,hw']
  have hj:=(gsZ hu).1
  rw [List.length_append] at hj
  by_cases hjA:j<A.length
  ·rw [List.getElem?_append_left hjA] at hu
   rw [World.cell?_setCells_out _ _ _ _ _ (fun _ _=>by left;show j<a.length * 4;omega)]
   have:=World.cell?_setCells_in E.w.heap.size A 0 (E.w.drew.alloc (.cells (qy (a.length+b.length)++qy (G - (a.length+b.length))) 39)) (fun k hk=>c1 _ (by omega)) j hjA
   rw [Nat.zero_add] at this
   rw [this, ←hu,ggZ hjA]
  ·rw [List.getElem?_append_right (by omega)] at hu
   have:=World.cell?_setCells_in E.w.heap.size B (a.length * 4) ((E.w.drew.alloc (.cells (qy (a.length+b.length)++qy (G - (a.length+b.length))) 39)).setCells E.w.heap.size 0 A) (fun k hk=>qS _ A 0 _ (fun t ht=>by rw [Nat.zero_add];exact c1 t (by omega)) _ (c1 _ (by omega))) (j - A.length) (by omega)
   rw [show a.length * 4+(j - A.length)=j by omega] at this
   rw [this, ←hu,ggZ (by omega)]
 have h':SR N w0 S0 {E with w:=w' } st t:=h.world hBl E.S (fun b o=>⟨.inl,fun hh=>hh.elim id fun k=>k.1⟩)
 have klt: ∀m,E.live m=true→E.κ m<E.w.heap.size:=fun m hm=>jW (a:=⟨t,[]⟩) h hm
 have hAB:Al (fun x t=>Rep E.S E.w x t) (A++B) ((a++b).flatMap qu):=by rw [List.flatMap_append];exact hA4.append hB4
 have hlen2:(A++B).length=(a++b).length * 4:=by rw [hAB.len,qN]
 have hgl:E.w.heap.size<w'.heap.size:=(Array.getElem?_eq_some_iff.1 hcur1).1
 have h2:=h'.nq (q:=d+st.off) (g:=E.w.heap.size) hq (fun m hm=>by have:=klt m hm;show E.κ m≠_;omega) (fun r' hr=>by have:=(h.rows r' _ hr).2.1;omega)
  (bx:=.d ((a++b).length * 4) ((a++b).flatMap qu)) ⟨by show E.B≤E.w.heap.size;rw [h.base];exact h.below.size,fun o hs=>absurd (h.lt _ o hs) (by omega),_,hcur1,.cells cur1 39 _ <| .d _ _ (qN _) (by rw [hcs1,List.length_append];exact Nat.mul_le_mul_right _ hG) fun i x u hx ht=>by
   have hi:i<(A++B).length:=by rw [hAB.len];exact (gsZ ht).1
   have hx':=hcell i _ (ggZ hi)
   rw [hx] at hx'
   have hR:=hAB.at_ i x u (by rw [ggZ hi];exact hx'.symm) ht
   exact ⟨hR.mono (fun _ _ hs=>hs) (fun b o hs=>aA.cU hBl (h.lt b o hs)),uM _ _ (List.mem_of_getElem? ht)⟩⟩
 refine ⟨_,rfl,_,_,rfl,hk,ey h2 hd ?_⟩
 have:=VR.view (E:={E with w:=w',κ:=upd E.κ (d+st.off) E.w.heap.size,live:=upd E.live (d+st.off) true }) (d+st.off) 0 (a++b).length 4 G (by show upd E.live _ true _=true;exact aj _ _ _) (by rw [List.length_append];exact hG)
 have hκ:upd E.κ (d+st.off) E.w.heap.size (d+st.off)=E.w.heap.size:=aj _ _ _
 simp only [hκ,List.length_append] at this
 rw [List.length_append]
 exact this
end Go.ST
end
section
namespace Go.Proofs
open Go.Shelf
def Try.tK:Go.Shelf.Ren:=⟨fun|6=>34|15=>58|14=>57|28=>82|29=>83|20=>74|21=>75|22=>76|23=>77|24=>78|25=>79|26=>80|27=>81|46=>90|47=>91|48=>92|49=>93|50=>94|57=>98|n=>n,fun|22=>28|24=>39|25=>81|3=>3|39=>103|0=>0|53=>129|55=>102|4=>4|46=>123|45=>122|50=>97|5=>5|9=>9|66=>136|70=>135|76=>143|77=>144|n=>n,fun|n=>n⟩
theorem Try.vG:Go.Proofs.SlLaysF0.n6 Try.prog Try.tK:={
 mixed:=by kernel_rfl
 f6:=⟨Try.f34.name,by decide,Try.func34.trans (congrArg some (by kernel_rfl))⟩
 f14:=⟨Try.f57.name,by decide,Try.func57.trans (congrArg some (by kernel_rfl))⟩
 f15:=Try.func58.trans (congrArg some (by kernel_rfl))
 f20:=⟨Try.f74.name,by decide,Try.func74.trans (congrArg some (by kernel_rfl))⟩
 f21:=⟨Try.f75.name,by decide,Try.func75.trans (congrArg some (by kernel_rfl))⟩
 f22:=⟨Try.f76.name,by decide,Try.func76.trans (congrArg some (by kernel_rfl))⟩
 f23:=⟨Try.f77.name,by decide,Try.func77.trans (congrArg some (by kernel_rfl))⟩
 f24:=⟨Try.f78.name,by decide,Try.func78.trans (congrArg some (by kernel_rfl))⟩
 f25:=⟨Try.f79.name,by decide,Try.func79.trans (congrArg some (by kernel_rfl))⟩
 f26:=⟨Try.f80.name,by decide,Try.func80.trans (congrArg some (by kernel_rfl))⟩
 f27:=⟨Try.f81.name,by decide,Try.func81.trans (congrArg some (by kernel_rfl))⟩
 f28:=Try.func82.trans (congrArg some (by kernel_rfl))
 f29:=Try.func83.trans (congrArg some (by kernel_rfl))
 f46:=⟨Try.f90.name,by decide,Try.func90.trans (congrArg some (by kernel_rfl))⟩
 f47:=Try.func91.trans (congrArg some (by kernel_rfl))
 f48:=Try.func92.trans (congrArg some (by kernel_rfl))
 f49:=⟨Try.f93.name,by decide,Try.func93.trans (congrArg some (by kernel_rfl))⟩
 f50:=⟨Try.f94.name,by decide,Try.func94.trans (congrArg some (by kernel_rfl))⟩
 f57:=⟨Try.f98.name,by decide,Try.func98.trans (congrArg some (by kernel_rfl))⟩
 t0:=Try.underlying0
 a0:=Try.isAgg0
 z0:=Try.sizeOf0
 v0:=Try.zeroValue0
 t3:=Try.underlying3
 a3:=Try.isAgg3
 z3:=Try.sizeOf3
 v3:=Try.zeroValue3
 t4:=Try.underlying4
 a4:=Try.isAgg4
 z4:=Try.sizeOf4
 v4:=Try.zeroValue4
 t5:=Try.underlying5
 a5:=Try.isAgg5
 z5:=Try.sizeOf5
 v5:=Try.zeroValue5
 t9:=Try.underlying9
 a9:=Try.isAgg9
 z9:=Try.sizeOf9
 v9:=Try.zeroValue9
 t22:=Try.underlying28
 a22:=Try.isAgg28
 z22:=Try.sizeOf28
 v22:=Try.zeroValue28
 t25:=Try.underlying81
 a25:=Try.isAgg81
 z25:=Try.sizeOf81
 v25:=Try.zeroValue81
 t39:=Try.underlying103
 a39:=Try.isAgg103
 z39:=Try.sizeOf103
 v39:=Try.zeroValue103
 t45:=Try.underlying122
 a45:=Try.isAgg122
 z45:=Try.sizeOf122
 v45:=Try.zeroValue122
 t46:=Try.underlying123
 a46:=Try.isAgg123
 z46:=Try.sizeOf123
 v46:=Try.zeroValue123
 t50:=Try.underlying97
 a50:=Try.isAgg97
 z50:=Try.sizeOf97
 v50:=Try.zeroValue97
 t53:=Try.underlying129
 a53:=Try.isAgg129
 z53:=Try.sizeOf129
 v53:=Try.zeroValue129
 t55:=Try.underlying102
 a55:=Try.isAgg102
 z55:=Try.sizeOf102
 v55:=Try.zeroValue102
 t66:=Try.underlying136
 a66:=Try.isAgg136
 z66:=Try.sizeOf136
 v66:=Try.zeroValue136
 t70:=Try.underlying135
 a70:=Try.isAgg135
 z70:=Try.sizeOf135
 v70:=Try.zeroValue135
 t76:=Try.underlying143
 a76:=Try.isAgg143
 z76:=Try.sizeOf143
 v76:=Try.zeroValue143
 t77:=Try.underlying144
 a77:=Try.isAgg144
 z77:=Try.sizeOf144
 v77:=Try.zeroValue144 }
end Go.Proofs
end
section
namespace Go.ST2
open Go Go.DL Go.Proofs
noncomputable def c13:ba:=(.seq (.region [oo 4 (.mov (.const .nil)),oo 5 (.mov (Kc 0))] []) (.seq (.region [mv 8 0,mv 9 1,oo 10 (.buildS 28 1 2 [.nil] [(0,(tm 8)),(1,(tm 9))]),oo 11 (.inl 33 [tm 10]),mv 6 11] []) (.seq (.region [mv 12 6,oo 13 (.inl 34 [(tm 12),(.const (.clos 35 []))])] []) (.seq (.seq (.region [mv 14 6,ln 15 14,oo 16 (.mov (Kc 0))] []) (.block 0 (.loop (.seq (.region [oo 17 (.bin .lss (tm 16) (tm 15))] []) (.seq (.cond (tm 17) .skip (.exit 0)) (.seq (.block 1 (.seq (.region [mv 18 16,mv 7 18] []) (.seq (.region [mv 19 7,oo 20 (.bin .gtr (tm 19) (Kc 0)),mv 21 20,mT 22 6 21,mT 23 7 21,oT 24 21 (.bin .sub (tm 23) (Kc 1)),oT 25 21 (.idxL 4 (tm 22) (tm 24)),oT 26 21 (.load 4 true (tm 25)),mT 27 6 21,mT 28 7 21,oT 29 21 (.idxL 4 (tm 27) (tm 28)),oT 30 21 (.load 4 true (tm 29)),oT 31 21 (.call 35 [(tm 26),(tm 30)]),oT 32 21 (.bin .eql (tm 31) (Kc 0)),oo 33 (.pick (tm 21) (tm 32) kF)] []) (.cond (tm 33) (.seq (.region [oo 4 (.mov (.const .nil)),oo 5 (.mov (Kc 10))] []) .ret) .skip)))) (.region [oo 34 (.bin .add (tm 16) (Kc 1)),mv 16 34] []))))))) (.seq (.region [mv 35 6,mv 4 35,oo 5 (.mov (Kc 0))] []) .ret)))))
theorem l13:(Try.f13.body.bind (bo Try.prog 36 [33,34]))=some c13:=by kernel_rfl
end Go.ST2
end
section
namespace Go.ST
open Go Go.DL Go.MM Go.Proofs
theorem wD:jZ Try.prog 34 4:=
 jZ.of Try.vG 4 (fun w=>Try.isAgg39 w) (fun w=>Try.sizeOf39 w) (dD Try.func34 rfl rfl)
theorem uV {P:Program} {f:FuncId} {k:Nat} {u:V} {d:Option Nat} {st:St} {K:St→Prop} (hs:jZ P f k) (hk:K (st.set d (.t (.tup [])))):WC P f [.t .nil,u] d st K:=by
 refine ⟨hs.callable,fun N w0 S0 E a vs h hlen hv hd=>?_⟩
 have hsz:vs.size=2:=hlen
 have hv0:=(hv 0 vs[0] _ (by simp [hsz]) rfl).av
 have hvs:vs= #[vs[0],vs[1]]:=by
  apply Array.ext
  ·simp [hsz]
  ·intro i h1 h2
   match i,h1 with
   |0,_=>rfl
   |1,_=>rfl
   |i+2,h1=>omega
 have hsl:vs[0]= .slice none 0 0:=by
  generalize vs[0]=v at hv0
  cases hv0;rfl
 have hcall:=hs.none_ none 0 vs[1] E.w
 rw [← hsl, ←hvs] at hcall
 refine hcall.mono ?_
 rintro e' w' ⟨rfl,rfl⟩
 exact ⟨_,rfl,_,_,rfl,hk,ey h hd (.t _ _ (.tup #[] [] rfl fun i x t hx=>by simp at hx))⟩
def unI:T→Int
 |.int _ i=>i
 |_=>0
def unE:T→RE
 |.agg [.str v,.slice _ ks,.int _ n,.int _ t]=>⟨v,ks.map unI,n,t⟩
 |_=>⟨⟨#[]⟩,[],0,0⟩
theorem sU (e:RE):unE (qx e)=e:=by
 obtain ⟨v,k,n,t⟩:=e
 show RE.mk v ((k.map I).map unI) n t=_
 rw [List.map_map,show unI ∘ I=id from rfl,List.map_id]
def cfE (x y:T):Int:=qB (unE x) (unE y)
theorem rm (a b:RE):cfE (qx a) (qx b)=qB a b:=by unfold cfE;rw [sU,sU]
theorem wz {zs:List RE} {ys:List T} (h:ys.Perm (zs.map qx)): ∃us:List RE,us.Perm zs∧ys=us.map qx:=by
 refine ⟨ys.map unE,?_,?_⟩
 ·have:=h.map unE
  rw [List.map_map] at this
  rwa [show unE ∘ qx=id from funext sU,List.map_id] at this
 ·rw [List.map_map]
  have:ys.map (qx ∘ unE)=ys.map id:=List.map_congr_left fun y hy=>by
   obtain ⟨z,_,rfl⟩:=List.mem_map.1 (h.mem_iff.1 hy)
   show qx (unE (qx z))=qx z
   rw [sU]
  rw [this,List.map_id]
theorem vM {l:List RE} (h: ∃(i:Nat) (hi:i+1<l.length),qB l[i] l[i+1]≠ -1):rl l=false:=by
 cases ho:rl l with
 |false=>rfl
 |true=>
  obtain ⟨i,hi,hne⟩:=h
  exact absurd (List.pairwise_iff_getElem.1 (rG.1 ho) i (i+1) (by omega) hi (by omega)) hne
theorem wx {l:List RE} (h: ∀(i:Nat) (hi:i+1<l.length),qB l[i] l[i+1]= -1):rl l=true:=by
 induction l with
 |nil=>rfl
 |cons a r ih=>
  cases r with
  |nil=>rfl
  |cons b r=>
   show (decide (qB a b= -1)&&rl (b::r))=true
   rw [Bool.and_eq_true]
   exact ⟨decide_eq_true (h 0 (by simp)),ih fun i hi=>h (i+1) (by simpa using hi)⟩
theorem wA {cs vs:List T} {n:Nat} (h:cs.length=n):aM cs 0 n vs=vs:=by
 unfold aM
 rw [List.take_zero,List.nil_append,List.drop_eq_nil_of_le (by omega),List.append_nil]
def Aj:Option (List RE)→T
 |some zs=>.tup [esT zs,I 0]
 |none=>.tup [.nil,I 10]
theorem xJ (a b:List RE) (ha:a.length<2^30) (hb:b.length<2^30) (hka: ∀x∈a,kOk x) (hkb: ∀x∈b,kOk x) (r:T) (e:Int)
  (hr: ∀zs:List RE,zs.Perm (a++b)→(zs.Pairwise fun x y=>qB y x≠ -1)→(rl zs=true→r=esT zs∧e=0)∧(rl zs=false→r= .nil∧e=10)):DCalls Try.prog 13 [esT a,esT b] (.tup [r,I e]):=by
 refine pN (rs:=[.tmp 4,.tmp 5]) mixed Try.func13 Go.ST2.l13 rfl rfl rfl (r:=[r,I e]) (nlZ rfl) ?_
 have hkab: ∀x∈a++b,kOk x:=fun x hx=>(List.mem_append.1 hx).elim (hka x) (hkb x)
 have hlen:(a++b).length<2^31:=by rw [List.length_append];omega
 repeat' ((conv=>whnf);first|exact trivial|refine vU a b ha hb rfl (fun h0=>?_) (fun h0=>?_)|refine nT_ ?_|refine aE1 ?_|refine aE0 ?_|refine aN1 ?_|refine aN0 ?_|refine aD1 ?_|refine aD0 ?_|refine nE_ (fun hq=>?_) (fun hq=>?_)|refine nN_ (fun hq=>?_) (fun hq=>?_)|refine nD_ (fun hq=>?_) (fun hq=>?_)|refine rb1 ?_|refine rb0 ?_|refine rbx ?_|refine rix ?_|refine aS ?_|fail)
 ·have:=hr [] (by rw [h0]) List.Pairwise.nil
  obtain ⟨rfl,rfl⟩:=this.1 rfl
  repeat' ((conv=>whnf);first|exact trivial|refine uV wD ?_|refine nT_ ?_|refine aE1 ?_|refine aE0 ?_|refine aN1 ?_|refine aN0 ?_|refine aD1 ?_|refine aD0 ?_|refine nE_ (fun hq=>?_) (fun hq=>?_)|refine nN_ (fun hq=>?_) (fun hq=>?_)|refine nD_ (fun hq=>?_) (fun hq=>?_)|refine rb1 ?_|refine rb0 ?_|refine rbx ?_|refine rix ?_|refine aS ?_|fail)
  refine pX 0 (α:=Unit) (β:=Unit) (fun _=>{sl:=[(6,.t .nil),(15,.t (I 0)),(16,.t (I 0))],bx:=[]}) (fun _=>True) (fun _=>0) (fun _=>{sl:=[(6,.t (esT []))],bx:=[]}) (fun _=>True) () trivial ?_ ?_ ?_
  ·repeat' (first|exact trivial|exact LeV.same _|exact LeB.same _|exact rfl|exact fun _ _ _=>trivial|exact lI|exact LeV.nil _ _ _|exact lB|refine qq ?_|refine qo ?_|refine And.intro ?_ ?_)
  ·rintro - -
   repeat' ((conv=>whnf);first|exact trivial|(exact ⟨(),trivial,by (repeat' (first|(exact LeV.empty 4)|exact trivial|exact LeV.same _|exact LeB.same _|exact rfl|exact fun _ _ _=>trivial|exact lI|exact LeV.nil _ _ _|exact lB|refine qq ?_|refine qo ?_|refine And.intro ?_ ?_));done⟩)|refine nT_ ?_|refine aE1 ?_|refine aE0 ?_|refine aN1 ?_|refine aN0 ?_|refine aD1 ?_|refine aD0 ?_|refine nE_ (fun hq=>?_) (fun hq=>?_)|refine nN_ (fun hq=>?_) (fun hq=>?_)|refine nD_ (fun hq=>?_) (fun hq=>?_)|refine rb1 ?_|refine rb0 ?_|refine rbx ?_|refine rix ?_|refine aS ?_|fail)
  ·rintro - -
   repeat' ((conv=>whnf);first|exact trivial|refine nT_ ?_|refine aE1 ?_|refine aE0 ?_|refine aN1 ?_|refine aN0 ?_|refine aD1 ?_|refine aD0 ?_|refine nE_ (fun hq=>?_) (fun hq=>?_)|refine nN_ (fun hq=>?_) (fun hq=>?_)|refine nD_ (fun hq=>?_) (fun hq=>?_)|refine rb1 ?_|refine rb0 ?_|refine rbx ?_|refine rix ?_|refine aS ?_|fail)
 ·have hfl:=qN (a++b)
  have hch:chunk 4 (a++b).length (((a++b).flatMap qu).drop 0)=(a++b).map qx:=by rw [List.drop_zero];exact sH _
  have hk1: ∀x∈(a++b).map qx, ∃e:RE,x=qx e∧kOk e:=fun x hx=>by
   obtain ⟨e,he,rfl⟩:=List.mem_map.1 hx
   exact ⟨e,rfl,hkab e he⟩
  repeat' ((conv=>whnf);first|exact trivial|refine qd (n:=11) (off:=0) (len:=(a++b).length) (k:=4) (m:=(a++b).length * 4) (ts:=(a++b).flatMap qu) wD rfl (by omega) (by decide) (by omega) (.inl rfl) (dD Try.func35 rfl rfl) cfE ?_ ?_ ?_ ?_ (fun ys hy hps=>?_)|refine nT_ ?_|refine aE1 ?_|refine aE0 ?_|refine aN1 ?_|refine aN0 ?_|refine aD1 ?_|refine aD0 ?_|refine nE_ (fun hq=>?_) (fun hq=>?_)|refine nN_ (fun hq=>?_) (fun hq=>?_)|refine nD_ (fun hq=>?_) (fun hq=>?_)|refine rb1 ?_|refine rb0 ?_|refine rbx ?_|refine rix ?_|refine aS ?_|fail)
  ·rw [hch]
   intro x hx y hy
   obtain ⟨e,rfl,he⟩:=hk1 x hx
   obtain ⟨f,rfl,hf⟩:=hk1 y hy
   rw [rm]
   exact rB e f he hf
  ·rw [hch]
   intro x hx
   obtain ⟨e,rfl,he⟩:=hk1 x hx
   rw [rm,qz.refl];decide
  ·rw [hch]
   intro x hx y hy z hz
   obtain ⟨e,rfl, -⟩:=hk1 x hx
   obtain ⟨f,rfl, -⟩:=hk1 y hy
   obtain ⟨g,rfl, -⟩:=hk1 z hz
   rw [rm,rm,rm]
   intro h1 h2
   have:=qz.t e f g (by have:=qz.r e f;omega) (by have:=qz.r f g;omega)
   omega
  ·rw [hch]
   intro x hx y hy z hz
   obtain ⟨e,rfl, -⟩:=hk1 x hx
   obtain ⟨f,rfl, -⟩:=hk1 y hy
   obtain ⟨g,rfl, -⟩:=hk1 z hz
   rw [rm,rm,rm]
   intro h1 h2 h3
   have r1:=qz.r e f;have r2:=qz.r f g;have r3:=qz.r e g
   have s1:=qz.s e f;have s2:=qz.s f g
   rcases r1 with r1|r1|r1
   ·omega
   ·have:=qz.z e f r1 g;omega
   ·rcases r2 with r2|r2|r2
    ·omega
    ·have:=qz.z' r2 e;omega
    ·have:=qz.t g f e (by omega) (by omega)
     have:=qz.s e g
     omega
  ·rw [hch] at hy
   obtain ⟨zs,hp,rfl⟩:=wz hy
   have hpw:zs.Pairwise fun x y=>qB y x≠ -1:=by
    refine (List.pairwise_map.1 hps).imp fun {x y} h=>?_
    rw [rm] at h
    omega
   obtain ⟨hrt,hrf⟩:=hr zs hp hpw
   have hzl:zs.length=(a++b).length:=hp.length_eq
   have hzk: ∀x∈zs,kOk x:=fun x hx=>hkab x (hp.mem_iff.1 hx)
   have hput:zs.flatMap qu=aM ((a++b).flatMap qu) 0 ((a++b).length * 4) ((zs.map qx).flatMap T.cells):=by rw [wA (qN _),rQ]
   clear hr hch hk1 hps hy
   generalize (a++b).length=n at *
   generalize (a++b).flatMap qu=cs at *
   have hr0: ∀bx:Nat→Option BX,bx 11=some (.d (n * 4) (aM cs 0 (n * 4) ((zs.map qx).flatMap T.cells)))→conv bx (.view 11 0 n 4)=some (esT zs,[11]):=fun bx hb=>by
    have:conv bx (.view 11 0 n 4)=(match bx 11 with|some (.d m ts)=>cond (Nat.blt 0 4&&Nat.ble (0+n * 4) m) (some (T.slice 4 (chunk 4 n (ts.drop 0)),[11])) none|_=>none):=rfl
    rw [this,hb, ←hput]
    simp only
    have h1:Nat.ble (0+n * 4) (n * 4)=true:=Nat.ble_eq_true_of_le (by omega)
    rw [h1,List.drop_zero, ←hzl,sH zs]
    rfl
   have hmap:((zs.map qx).length:Int)=(n:Int):=by rw [List.length_map,hzl]
   refine pX 0 (α:=Nat) (β:=Unit) (fun i=>{sl:=[(6,.t (esT zs)),(15,.t (I n)),(16,.t (I i))],bx:=[]})
    (fun i=>i≤n∧ ∀j (h:j+1<zs.length),j+1<i→qB zs[j] zs[j+1]= -1) (fun i=>n - i)
    (fun _=>{sl:=[(6,.t (esT zs))],bx:=[]}) (fun _=>rl zs=true) 0 ⟨Nat.zero_le _,fun j _ h=>by omega⟩ ?_ ?_ ?_
   ·repeat' (first|(exact LeV.conv _ _ _ (hr0 _ rfl) (fun n _ hk=>absurd (show n∈([]:List Nat) from hk) (by simp)))|exact trivial|exact LeV.same _|exact LeB.same _|exact rfl|exact fun _ _ _=>trivial|exact lI|exact LeV.nil _ _ _|exact lB|refine qq ?_|refine qo ?_|refine And.intro ?_ ?_)
   ·rintro i ⟨hi,hinv⟩
    rcases Nat.lt_or_ge i n with h|h
    ·have hlt:(i:Int)<(n:Int):=by omega
     have hnx:((i+1:Nat):Int)=IntKind.wrap .i64 ((i:Int)+1):=by rw [lS] <;> omega
     cases i with
     |zero=>
      repeat' ((conv=>whnf);first|exact trivial|refine pt hlt ?_|(exact ⟨1,⟨h,fun j _ hj=>by omega⟩,(by omega),by (repeat' (first|(exact leI hnx)|exact trivial|exact LeV.same _|exact LeB.same _|exact rfl|exact fun _ _ _=>trivial|exact lI|exact LeV.nil _ _ _|exact lB|refine qq ?_|refine qo ?_|refine And.intro ?_ ?_));done⟩)|refine nT_ ?_|refine aE1 ?_|refine aE0 ?_|refine aN1 ?_|refine aN0 ?_|refine aD1 ?_|refine aD0 ?_|refine nE_ (fun hq=>?_) (fun hq=>?_)|refine nN_ (fun hq=>?_) (fun hq=>?_)|refine nD_ (fun hq=>?_) (fun hq=>?_)|refine rb1 ?_|refine rb0 ?_|refine rbx ?_|refine rix ?_|refine aS ?_|fail)
     |succ j=>
      have hgt:((j+1:Nat):Int)>0:=by omega
      have hj0:j<zs.length:=by omega
      have hj1:j+1<zs.length:=by omega
      have hw:IntKind.wrap .i64 (((j+1:Nat):Int) - 1)=(j:Int):=by rw [lS] <;> omega
      have hg0:(zs.map qx)[(IntKind.wrap .i64 (((j+1:Nat):Int) - 1)).toNat]?.getD .nil= .agg (qu zs[j]):=by
       rw [hw,Int.toNat_natCast,qU hj0]
      have hg1:(zs.map qx)[((j+1:Nat):Int).toNat]?.getD .nil= .agg (qu zs[j+1]):=by
       rw [Int.toNat_natCast,qU hj1]
      have hb0:0≤IntKind.wrap .i64 (((j+1:Nat):Int) - 1)∧IntKind.wrap .i64 (((j+1:Nat):Int) - 1)<((zs.map qx).length:Int):=by rw [hw,hmap];omega
      have hb1:0≤((j+1:Nat):Int)∧((j+1:Nat):Int)<((zs.map qx).length:Int):=by rw [hmap];omega
      have hC:=rB zs[j] zs[j+1] (hzk _ (List.getElem_mem hj0)) (hzk _ (List.getElem_mem hj1))
      have hcr:=qz.r zs[j] zs[j+1]
      have hne:=List.pairwise_iff_getElem.1 hpw j (j+1) hj0 hj1 (by omega)
      have hcs:=qz.s zs[j] zs[j+1]
      by_cases hz:qB zs[j] zs[j+1]=0
      ·obtain ⟨rfl,rfl⟩:=hrf (vM ⟨j,hj1,by omega⟩)
       repeat' ((conv=>whnf);first|exact trivial|refine pt hlt ?_|refine pt hgt ?_|(refine nv_ (.agg (qu zs[j])) (by first|exact hg0|fail) ?_)|(refine nv_ (.agg (qu zs[j+1])) (by first|exact hg1|fail) ?_)|refine qk _ (hC) ?_|refine py hz ?_|refine nT_ ?_|refine aE1 ?_|refine aE0 ?_|refine aN1 ?_|refine aN0 ?_|refine aD1 ?_|refine aD0 ?_|refine nE_ (fun hq=>?_) (fun hq=>?_)|refine nN_ (fun hq=>?_) (fun hq=>?_)|refine nD_ (fun hq=>?_) (fun hq=>?_)|refine rb1 ?_|refine rb0 ?_|refine rbx ?_|refine rix ?_|(refine And.intro (by first|exact hb0|exact hb1|exact qw _|fail) ?_)|refine aS ?_|fail)
      ·have hinv': ∀k (hk:k+1<zs.length),k+1<j+1+1→qB zs[k] zs[k+1]= -1:=fun k hk hk2=>by
        rcases Nat.lt_or_ge (k+1) (j+1) with h3|h3
        ·exact hinv k hk h3
        ·have:k=j:=by omega
         subst this;omega
       repeat' ((conv=>whnf);first|exact trivial|refine pt hlt ?_|refine pt hgt ?_|(refine nv_ (.agg (qu zs[j])) (by first|exact hg0|fail) ?_)|(refine nv_ (.agg (qu zs[j+1])) (by first|exact hg1|fail) ?_)|refine qk _ (hC) ?_|refine px hz ?_|(exact ⟨j+1+1,⟨h,hinv'⟩,(by omega),by (repeat' (first|(exact leI hnx)|exact trivial|exact LeV.same _|exact LeB.same _|exact rfl|exact fun _ _ _=>trivial|exact lI|exact LeV.nil _ _ _|exact lB|refine qq ?_|refine qo ?_|refine And.intro ?_ ?_));done⟩)|refine nT_ ?_|refine aE1 ?_|refine aE0 ?_|refine aN1 ?_|refine aN0 ?_|refine aD1 ?_|refine aD0 ?_|refine nE_ (fun hq=>?_) (fun hq=>?_)|refine nN_ (fun hq=>?_) (fun hq=>?_)|refine nD_ (fun hq=>?_) (fun hq=>?_)|refine rb1 ?_|refine rb0 ?_|refine rbx ?_|refine rix ?_|(refine And.intro (by first|exact hb0|exact hb1|exact qw _|fail) ?_)|refine aS ?_|fail)
    ·have hlt: ¬(i:Int)<(n:Int):=by omega
     have ho:rl zs=true:=wx fun j hj=>hinv j hj (by omega)
     repeat' ((conv=>whnf);first|exact trivial|refine pq hlt ?_|(exact ⟨(),ho,by (repeat' (first|exact trivial|exact LeV.same _|exact LeB.same _|exact rfl|exact fun _ _ _=>trivial|exact lI|exact LeV.nil _ _ _|exact lB|refine qq ?_|refine qo ?_|refine And.intro ?_ ?_));done⟩)|refine nT_ ?_|refine aE1 ?_|refine aE0 ?_|refine aN1 ?_|refine aN0 ?_|refine aD1 ?_|refine aD0 ?_|refine nE_ (fun hq=>?_) (fun hq=>?_)|refine nN_ (fun hq=>?_) (fun hq=>?_)|refine nD_ (fun hq=>?_) (fun hq=>?_)|refine rb1 ?_|refine rb0 ?_|refine rbx ?_|refine rix ?_|refine aS ?_|fail)
   ·rintro - ho
    obtain ⟨rfl,rfl⟩:=hrt ho
    repeat' ((conv=>whnf);first|exact trivial|refine nT_ ?_|refine aE1 ?_|refine aE0 ?_|refine aN1 ?_|refine aN0 ?_|refine aD1 ?_|refine aD0 ?_|refine nE_ (fun hq=>?_) (fun hq=>?_)|refine nN_ (fun hq=>?_) (fun hq=>?_)|refine nD_ (fun hq=>?_) (fun hq=>?_)|refine rb1 ?_|refine rb0 ?_|refine rbx ?_|refine rix ?_|refine aS ?_|fail)
theorem zg (a b:List RE) (hia:qH a) (hib:qH b) (ha:a.length<2^30) (hb:b.length<2^30) (hka: ∀x∈a,kOk x) (hkb: ∀x∈b,kOk x):DCalls Try.prog 13 [esT a,esT b] (Aj (tj a b)):=by
 have hJ:=fun (zs:List RE) (hp:zs.Perm (a++b)) hs=>uY hia hib hp hs
 cases h:tj a b with
 |none=>
  refine xJ a b ha hb hka hkb .nil 10 fun zs hp hs=>⟨fun ho=>?_,fun _=>⟨rfl,rfl⟩⟩
  have:=hJ zs hp hs
  rw [h,if_pos ho] at this;cases this
 |some w=>
  refine xJ a b ha hb hka hkb (esT w) 0 fun zs hp hs=>⟨fun ho=>?_,fun ho=>?_⟩
  ·have:=hJ zs hp hs
   rw [h,if_pos ho] at this;cases this
   exact ⟨rfl,rfl⟩
  ·have:=hJ zs hp hs
   rw [h,if_neg (by simp [ho])] at this;cases this
end Go.ST
end
section
end
noncomputable section
namespace Go.ST4
open Go Go.DL Go.Proofs
def c22:ba:=(.seq (.region [oo 5 (.box 10 (tm 2)),oo 6 (.mov (.const .nil)),oo 7 (.mov kF)] []) (.seq (.region [oo 8 (.mov (.const .nil))] []) (.seq (.seq (.region [mv 13 1,ln 14 13,oo 15 (.mov (Kc 0))] []) (.block 0 (.loop (.seq (.region [oo 16 (.bin .lss (tm 15) (tm 14))] []) (.seq (.cond (tm 16) .skip (.exit 0)) (.seq (.block 1 (.seq (.region [ix 17 1 13 15,ld 18 17,mv 10 18] []) (.seq (.region [mv 20 0,mv 21 10,oo 22 (.call 44 [(tm 20),(tm 21)]),mv 19 22,oo 23 (.ext (tm 19) 0),oo 24 (.ext (tm 19) 1),⟨some 11,.alloc [S0,Z0,Z0],none,[]⟩,o0 (.store 3 (tm 11) (tm 23)),mv 12 24] []) (.seq (.seq (.region [mv 25 12,oo 26 (.not (tm 25))] []) (.cond (tm 26) (.seq (.region [oo 6 (.mov (.const .nil)),oo 7 (.mov kF)] []) .ret) .skip)) (.region [mv 27 8,lA 28 3 11,lA 29 10 5,oo 30 (.call 45 [(tm 28),(tm 29)]),oo 31 (.buildF 1 1 [Z0] [(0,(tm 30))]),oo 32 (.append 29 3 1 8 (tm 27) (tm 31)),mv 8 32] []))))) (.region [oo 33 (.bin .add (tm 15) (Kc 1)),mv 15 33] []))))))) (.seq (.region [mv 34 8,mv 6 34,oo 7 (.mov kT)] []) .ret))))
theorem l22:(Try.f22.body.bind (bo Try.prog 35 [8000031]))=some c22:=by kernel_rfl
def c42:ba:=(.seq (.region [mv 9 0,oo 10 (.nilck (tm 9)),fa 11 0 10,ld 12 11,mv 13 1,oo 14 (.call 44 [(tm 12),(tm 13)]),mv 8 14,oo 15 (.ext (tm 8) 0),oo 16 (.ext (tm 8) 1),⟨some 6,.alloc [S0,Z0,Z0],none,[]⟩,o0 (.store 3 (tm 6) (tm 15)),mv 7 16] []) (.seq (.region [mv 17 7] []) (.cond (tm 17) (.region [mv 18 0,lA 19 3 6,mv 20 0,oo 21 (.nilck (tm 20)),fa 22 8 21,lA 23 10 22,mv 24 2,lA 25 3 6,oo 26 (.call 66 [tm 25]),oo 27 (.minI (tm 24) (tm 26)),oo 28 (.call 65 [(tm 19),(tm 23),(tm 27)]),oo 29 (.nilck (tm 18)),fa 30 8 29,o0 (.store 10 (tm 30) (tm 28))] []) .skip)))
theorem l42:(Try.f42.body.bind (bo Try.prog 31 []))=some c42:=by kernel_rfl
def c41:ba:=(.seq (.region [oo 2 (.mov kF)] []) (.seq (.seq (.region [mv 3 0,oo 4 (.nilck (tm 3)),fa 5 23 4,ld 6 5,oo 7 (.not (tm 6)),mv 8 7,mT 9 0 8,oT 10 8 (.nilck (tm 9)),oT 11 8 (.offA 7 (tm 10)),oT 12 8 (.load 1 false (tm 11)),mT 13 0 8,oT 14 8 (.nilck (tm 13)),oT 15 8 (.offA 1 (tm 14)),oT 16 8 (.offA 1 (tm 15)),oT 17 8 (.load 1 false (tm 16)),oT 18 8 (.call 43 [(tm 12),(tm 17)]),oT 19 8 (.len (tm 18)),oT 20 8 (.bin .geq (tm 19) (Kc 100)),oo 21 (.pick (tm 8) (tm 20) kF)] []) (.cond (tm 21) (.seq (.region [oo 2 (.mov kF)] []) .ret) .skip)) (.seq (.region [mv 22 0,mv 23 0,oo 24 (.nilck (tm 23)),fa 25 7 24,ld 26 25,mv 27 0,oo 28 (.nilck (tm 27)),fa 29 19 28,lA 30 4 29,oo 31 (.call 64 [(tm 26),(tm 30)]),oo 32 (.nilck (tm 22)),fa 33 7 32,o0 (.store 1 (tm 33) (tm 31))] []) (.seq (.region [oo 2 (.mov kT)] []) .ret))))
theorem l41:(Try.f41.body.bind (bo Try.prog 34 []))=some c41:=by kernel_rfl
def c16:ba:=(.seq (.region [oo 2 (.mov kF)] []) (.seq (.region [mv 3 0,mv 4 0,mv 5 0,oo 6 (.nilck (tm 5)),fa 7 19 6,fa 8 2 7,ld 9 8,oo 10 (.bin .add (tm 9) (Kc 1)),oo 11 (.minI (tm 10) (Kc 65535)),mv 12 0,oo 13 (.nilck (tm 12)),fa 14 18 13,ld 15 14,oo 16 (.nilck (tm 3)),fa 17 19 16,fa 18 2 17,o0 (.store 1 (tm 18) (tm 11)),oo 19 (.nilck (tm 4)),fa 20 19 19,fa 21 3 20,o0 (.store 1 (tm 21) (tm 15))] []) (.seq (.seq (.region [mv 22 0,oo 23 (.inl 41 [tm 22]),oo 24 (.not (tm 23))] []) (.cond (tm 24) (.seq (.region [oo 2 (.mov kF)] []) .ret) .skip)) (.seq (.region [mv 25 0,mv 26 0,oo 27 (.nilck (tm 26)),fa 28 1 27,fa 29 3 28,ld 30 29,mv 31 0,oo 32 (.nilck (tm 31)),fa 33 19 32,fa 34 2 33,ld 35 34,oo 36 (.inl 42 [(tm 25),(tm 30),(tm 35)])] []) (.seq (.region [oo 2 (.mov kT)] []) .ret)))))
theorem l16:(Try.f16.body.bind (bo Try.prog 37 [41,42]))=some c16:=by kernel_rfl
def c17:ba:=(.seq (.region [oo 2 (.mov kF)] []) (.seq (.region [mv 3 0,mv 4 0,oo 5 (.nilck (tm 4)),fa 6 18 5,ld 7 6,oo 8 (.nilck (tm 3)),fa 9 19 8,fa 10 3 9,o0 (.store 1 (tm 10) (tm 7))] []) (.seq (.region [mv 11 0,oo 12 (.inl 41 [tm 11]),mv 2 12] []) .ret)))
theorem l17:(Try.f17.body.bind (bo Try.prog 13 [41]))=some c17:=by kernel_rfl
def c18:ba:=(.seq (.region [oo 2 (.mov kF)] []) (.seq (.region [mv 3 0,oo 4 (.nilck (tm 3)),fa 5 23 4,ld 6 5,mv 7 6,mT 8 0 7,oT 9 7 (.nilck (tm 8)),oT 10 7 (.offA 19 (tm 9)),oT 11 7 (.offA 3 (tm 10)),oT 12 7 (.load 1 false (tm 11)),mT 13 0 7,oT 14 7 (.nilck (tm 13)),oT 15 7 (.offA 18 (tm 14)),oT 16 7 (.load 1 false (tm 15)),mT 17 0 7,oT 18 7 (.nilck (tm 17)),oT 19 7 (.offA 1 (tm 18)),oT 20 7 (.offA 4 (tm 19)),oT 21 7 (.load 1 false (tm 20)),oT 22 7 (.bin .sub (tm 16) (tm 21)),oT 23 7 (.bin .geq (tm 12) (tm 22)),oo 24 (.pick (tm 7) (tm 23) kF),mv 2 24] []) .ret))
theorem l18:(Try.f18.body.bind (bo Try.prog 25 []))=some c18:=by kernel_rfl
def c19:ba:=(.seq (.region [oo 2 (.mov kF)] []) (.seq (.region [mv 6 0,mv 7 0,oo 8 (.nilck (tm 7)),fa 9 18 8,ld 10 9,oo 11 (.nilck (tm 6)),fa 12 19 11,fa 13 3 12,o0 (.store 1 (tm 13) (tm 10))] []) (.seq (.seq (.region [mv 14 0,oo 15 (.nilck (tm 14)),fa 16 23 15,ld 17 16,oo 18 (.not (tm 17))] []) (.cond (tm 18) (.seq (.region [oo 19 (.mkmap false [.int .i64]),mv 3 19] []) (.seq (.seq (.region [mv 20 0,oo 21 (.nilck (tm 20)),fa 22 7 21,ld 23 22,mv 24 0,oo 25 (.nilck (tm 24)),fa 26 1 25,fa 27 1 26,ld 28 27,oo 29 (.call 43 [(tm 23),(tm 28)]),ln 30 29,oo 31 (.mov (Kc 0))] []) (.block 0 (.loop (.seq (.region [oo 32 (.bin .lss (tm 31) (tm 30))] []) (.seq (.cond (tm 32) .skip (.exit 0)) (.seq (.block 1 (.seq (.region [ix 33 4 29 31,lA 34 4 33,⟨some 5,.alloc [S0,.nil,Z0,Z0],none,[]⟩,o0 (.store 4 (tm 5) (tm 34))] []) (.region [mv 35 3,fa 36 2 5,ld 37 36,o0 (.bp false [.int .i64] (tm 35) (tm 37) kT)] []))) (.region [oo 38 (.bin .add (tm 31) (Kc 1)),mv 31 38] []))))))) (.seq (.seq (.region [mv 39 0,mv 40 0,oo 41 (.nilck (tm 40)),fa 42 1 41,fa 43 4 42,ld 44 43,oo 45 (.nilck (tm 39)),fa 46 19 45,fa 47 2 46,o0 (.store 1 (tm 47) (tm 44))] []) (.block 2 (.loop (.seq (.seq (.region [mv 48 3,mv 49 0,oo 50 (.nilck (tm 49)),fa 51 19 50,fa 52 2 51,ld 53 52,oo 54 (.mlook false [.int .i64] (.bool false) false (tm 48) (tm 53))] []) (.cond (tm 54) .skip (.exit 2))) (.seq (.block 3 .skip) (.region [mv 55 0,oo 56 (.nilck (tm 55)),fa 57 19 56,fa 58 2 57,ld 59 58,oo 60 (.bin .add (tm 59) (Kc 1)),oo 61 (.nilck (tm 55)),fa 62 19 61,fa 63 2 62,o0 (.store 1 (tm 63) (tm 60))] [])))))) (.seq (.region [mv 64 0,oo 65 (.nilck (tm 64)),fa 66 19 65,fa 67 2 66,ld 68 67,mv 69 0,oo 70 (.nilck (tm 69)),fa 71 1 70,fa 72 5 71,ld 73 72,oo 74 (.bin .gtr (tm 68) (tm 73))] []) (.cond (tm 74) (.seq (.region [oo 2 (.mov kF)] []) .ret) .skip))))) .skip)) (.seq (.seq (.region [mv 75 0,oo 76 (.inl 41 [tm 75]),oo 77 (.not (tm 76))] []) (.cond (tm 77) (.seq (.region [oo 2 (.mov kF)] []) .ret) .skip)) (.seq (.region [mv 78 0,mv 79 0,oo 80 (.nilck (tm 79)),fa 81 1 80,fa 82 3 81,ld 83 82,mv 84 0,oo 85 (.nilck (tm 84)),fa 86 19 85,fa 87 2 86,ld 88 87,oo 89 (.inl 42 [(tm 78),(tm 83),(tm 88)])] []) (.seq (.region [oo 2 (.mov kT)] []) .ret))))))
theorem l19:(Try.f19.body.bind (bo Try.prog 90 [41,42]))=some c19:=by kernel_rfl
def c47:ba:=(.seq (.region [oo 3 (.box 4 (tm 0)),oo 4 (.mov kF)] []) (.seq (.region [fa 5 0 3,ld 6 5,ld 7 1,oo 8 (.nilck (tm 7)),fa 9 1 8,fa 10 1 9,ld 11 10,oo 12 (.bin .eql (tm 6) (tm 11)),mv 13 12,oT 14 13 (.offA 2 (tm 3)),oT 15 13 (.load 1 false (tm 14)),oT 16 13 (.load 1 false (tm 2)),oT 17 13 (.bin .eql (tm 15) (tm 16)),oo 18 (.pick (tm 13) (tm 17) kF),mv 4 18] []) .ret))
theorem l47:(Try.f47.body.bind (bo Try.prog 19 []))=some c47:=by kernel_rfl
def c21:ba:=(.seq (.region [oo 2 (.mov kF)] []) (.seq (.region [mv 7 0,oo 8 (.nilck (tm 7)),fa 9 19 8,mv 10 0,oo 11 (.nilck (tm 10)),fa 12 1 11,lA 13 6 12,⟨some 4,.alloc [Z0,S0,.nil,S0,Z0,Z0],none,[]⟩,mv 3 9,o0 (.store 6 (tm 4) (tm 13))] []) (.seq (.seq (.region [mv 14 0,oo 15 (.nilck (tm 14)),fa 16 23 15,ld 17 16,oo 18 (.not (tm 17))] []) (.cond (tm 18) (.region [mv 19 3,mv 20 3,fa 21 4 4,ld 22 21,mv 23 0,oo 24 (.nilck (tm 23)),fa 25 18 24,ld 26 25,oo 27 (.nilck (tm 19)),fa 28 2 27,o0 (.store 1 (tm 28) (tm 22)),oo 29 (.nilck (tm 20)),fa 30 3 29,o0 (.store 1 (tm 30) (tm 26))] []) .skip)) (.seq (.region [mv 31 0,oo 32 (.nilck (tm 31)),fa 33 18 32,ld 34 33,mv 35 3,oo 36 (.nilck (tm 35)),fa 37 3 36,ld 38 37,oo 39 (.bin .sub (tm 34) (tm 38)),oo 40 (.maxI (Kc 0) (tm 39)),fa 41 5 4,ld 42 41,oo 43 (.bin .quo (tm 40) (tm 42)),mv 5 43] []) (.seq (.seq (.region [mv 44 3,oo 45 (.nilck (tm 44)),fa 46 2 45,ld 47 46,mv 48 5,oo 49 (.bin .add (tm 47) (tm 48)),fa 50 4 4,ld 51 50,oo 52 (.bin .geq (tm 49) (tm 51))] []) (.cond (tm 52) (.region [mv 53 3,mv 54 3,fa 55 4 4,ld 56 55,mv 57 0,oo 58 (.nilck (tm 57)),fa 59 18 58,ld 60 59,oo 61 (.nilck (tm 53)),fa 62 2 61,o0 (.store 1 (tm 62) (tm 56)),oo 63 (.nilck (tm 54)),fa 64 3 63,o0 (.store 1 (tm 64) (tm 60))] []) (.region [mv 65 3,mv 66 3,mv 67 3,oo 68 (.nilck (tm 67)),fa 69 2 68,ld 70 69,mv 71 5,oo 72 (.bin .add (tm 70) (tm 71)),mv 73 3,oo 74 (.nilck (tm 73)),fa 75 3 74,ld 76 75,mv 77 5,fa 78 5 4,ld 79 78,oo 80 (.bin .mul (tm 77) (tm 79)),oo 81 (.bin .add (tm 76) (tm 80)),oo 82 (.nilck (tm 65)),fa 83 2 82,o0 (.store 1 (tm 83) (tm 72)),oo 84 (.nilck (tm 66)),fa 85 3 84,o0 (.store 1 (tm 85) (tm 81))] [[],[],[],[],[],[],[],[],[],[],[],[],[],[],[],[],[],[],[],[14],[],[],[]]))) (.seq (.region [mv 86 3,oo 87 (.nilck (tm 86)),fa 88 2 87,ld 89 88,oo 90 (.bin .gtr (tm 89) (Kc 0)),mv 6 90] []) (.seq (.seq (.region [mv 91 6] []) (.cond (tm 91) (.region [mv 92 3,oo 93 (.nilck (tm 92)),fa 94 2 93,ld 95 94,oo 96 (.bin .sub (tm 95) (Kc 1)),oo 97 (.nilck (tm 92)),fa 98 2 97,o0 (.store 1 (tm 98) (tm 96))] []) .skip)) (.seq (.region [mv 99 0,oo 100 (.inl 41 [tm 99]),mv 101 100,mT 102 6 101,oo 103 (.pick (tm 101) (tm 102) kF),mv 2 103] []) .ret))))))))
theorem l21:(Try.f21.body.bind (bo Try.prog 104 [41]))=some c21:=by kernel_rfl
end Go.ST4
end
