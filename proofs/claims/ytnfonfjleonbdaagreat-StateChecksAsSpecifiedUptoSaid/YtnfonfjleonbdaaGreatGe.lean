/- Joined by program: parts of a data level over the model, of the program's functions over it, and of the statement's proof. -/
import Derived.Shelf.SlLaysF0
import Derived.Shelf.SlGeneric
import Derived.Test.YtnfonfjleonbdaaGreatProg
import Derived.Test.YtnfonfjleonbdaaGreatGc
import Derived.KernelRfl
import Derived.Test.YtnfonfjleonbdaaGreatGd
import Derived.Shelf.Sort.Plain
import Derived.Shelf.Slices.In.SortNone
import Derived.Shelf.Lays8
set_option maxRecDepth 100000
set_option maxHeartbeats 8000000
section
namespace Go.Proofs
open Go.Shelf
def Tryz.vL:Go.Shelf.Ren:=⟨fun|6=>78|15=>121|14=>120|28=>154|29=>155|20=>146|21=>147|22=>148|23=>149|24=>150|25=>151|26=>152|27=>153|46=>177|47=>178|48=>179|49=>180|50=>181|57=>194|n=>n,fun|22=>25|24=>64|25=>73|3=>3|39=>163|0=>0|53=>198|55=>183|4=>4|46=>192|45=>191|50=>124|5=>5|9=>9|66=>220|70=>219|76=>233|77=>234|n=>n,fun|n=>n⟩
theorem Tryz.xV:Go.Proofs.SlLaysF0.n6 Tryz.prog Tryz.vL:={
 mixed:=by kernel_rfl
 f6:=⟨Tryz.f78.name,by decide,Tryz.func78.trans (congrArg some (by kernel_rfl))⟩
 f14:=⟨Tryz.f120.name,by decide,Tryz.func120.trans (congrArg some (by kernel_rfl))⟩
 f15:=Tryz.func121.trans (congrArg some (by kernel_rfl))
 f20:=⟨Tryz.f146.name,by decide,Tryz.func146.trans (congrArg some (by kernel_rfl))⟩
 f21:=⟨Tryz.f147.name,by decide,Tryz.func147.trans (congrArg some (by kernel_rfl))⟩
 f22:=⟨Tryz.f148.name,by decide,Tryz.func148.trans (congrArg some (by kernel_rfl))⟩
 f23:=⟨Tryz.f149.name,by decide,Tryz.func149.trans (congrArg some (by kernel_rfl))⟩
 f24:=⟨Tryz.f150.name,by decide,Tryz.func150.trans (congrArg some (by kernel_rfl))⟩
 f25:=⟨Tryz.f151.name,by decide,Tryz.func151.trans (congrArg some (by kernel_rfl))⟩
 f26:=⟨Tryz.f152.name,by decide,Tryz.func152.trans (congrArg some (by kernel_rfl))⟩
 f27:=⟨Tryz.f153.name,by decide,Tryz.func153.trans (congrArg some (by kernel_rfl))⟩
 f28:=Tryz.func154.trans (congrArg some (by kernel_rfl))
 f29:=Tryz.func155.trans (congrArg some (by kernel_rfl))
 f46:=⟨Tryz.f177.name,by decide,Tryz.func177.trans (congrArg some (by kernel_rfl))⟩
 f47:=Tryz.func178.trans (congrArg some (by kernel_rfl))
 f48:=Tryz.func179.trans (congrArg some (by kernel_rfl))
 f49:=⟨Tryz.f180.name,by decide,Tryz.func180.trans (congrArg some (by kernel_rfl))⟩
 f50:=⟨Tryz.f181.name,by decide,Tryz.func181.trans (congrArg some (by kernel_rfl))⟩
 f57:=⟨Tryz.f194.name,by decide,Tryz.func194.trans (congrArg some (by kernel_rfl))⟩
 t0:=Tryz.underlying0
 a0:=Tryz.isAgg0
 z0:=Tryz.sizeOf0
 v0:=Tryz.zeroValue0
 t3:=Tryz.underlying3
 a3:=Tryz.isAgg3
 z3:=Tryz.sizeOf3
 v3:=Tryz.zeroValue3
 t4:=Tryz.underlying4
 a4:=Tryz.isAgg4
 z4:=Tryz.sizeOf4
 v4:=Tryz.zeroValue4
 t5:=Tryz.underlying5
 a5:=Tryz.isAgg5
 z5:=Tryz.sizeOf5
 v5:=Tryz.zeroValue5
 t9:=Tryz.underlying9
 a9:=Tryz.isAgg9
 z9:=Tryz.sizeOf9
 v9:=Tryz.zeroValue9
 t22:=Tryz.underlying25
 a22:=Tryz.isAgg25
 z22:=Tryz.sizeOf25
 v22:=Tryz.zeroValue25
 t25:=Tryz.underlying73
 a25:=Tryz.isAgg73
 z25:=Tryz.sizeOf73
 v25:=Tryz.zeroValue73
 t39:=Tryz.underlying163
 a39:=Tryz.isAgg163
 z39:=Tryz.sizeOf163
 v39:=Tryz.zeroValue163
 t45:=Tryz.underlying191
 a45:=Tryz.isAgg191
 z45:=Tryz.sizeOf191
 v45:=Tryz.zeroValue191
 t46:=Tryz.underlying192
 a46:=Tryz.isAgg192
 z46:=Tryz.sizeOf192
 v46:=Tryz.zeroValue192
 t50:=Tryz.underlying124
 a50:=Tryz.isAgg124
 z50:=Tryz.sizeOf124
 v50:=Tryz.zeroValue124
 t53:=Tryz.underlying198
 a53:=Tryz.isAgg198
 z53:=Tryz.sizeOf198
 v53:=Tryz.zeroValue198
 t55:=Tryz.underlying183
 a55:=Tryz.isAgg183
 z55:=Tryz.sizeOf183
 v55:=Tryz.zeroValue183
 t66:=Tryz.underlying220
 a66:=Tryz.isAgg220
 z66:=Tryz.sizeOf220
 v66:=Tryz.zeroValue220
 t70:=Tryz.underlying219
 a70:=Tryz.isAgg219
 z70:=Tryz.sizeOf219
 v70:=Tryz.zeroValue219
 t76:=Tryz.underlying233
 a76:=Tryz.isAgg233
 z76:=Tryz.sizeOf233
 v76:=Tryz.zeroValue233
 t77:=Tryz.underlying234
 a77:=Tryz.isAgg234
 z77:=Tryz.sizeOf234
 v77:=Tryz.zeroValue234 }
end Go.Proofs
end
noncomputable section
namespace Go.ST2
open Go Go.DL Go.Proofs
def c27:bc:=(.seq (.region [oo 4 (.mov (.const .nil)),oo 5 (.mov (Kc 0))] []) (.seq (.region [mv 8 0,mv 9 1,oo 10 (.buildS 25 1 2 [.nil] [(0,(tm 8)),(1,(tm 9))]),oo 11 (.inl 77 [tm 10]),mv 6 11] []) (.seq (.region [mv 12 6,oo 13 (.inl 78 [(tm 12),(.const (.clos 29 []))])] []) (.seq (.seq (.region [mv 14 6,ln 15 14,oo 16 (.mov (Kc 0))] []) (.block 0 (.loop (.seq (.region [oo 17 (.bin .lss (tm 16) (tm 15))] []) (.seq (.cond (tm 17) .skip (.exit 0)) (.seq (.block 1 (.seq (.region [mv 18 16,mv 7 18] []) (.seq (.region [mv 19 7,oo 20 (.bin .gtr (tm 19) (Kc 0)),mv 21 20,mT 22 6 21,mT 23 7 21,oT 24 21 (.bin .sub (tm 23) (Kc 1)),oT 25 21 (.idxL 4 (tm 22) (tm 24)),oT 26 21 (.load 4 true (tm 25)),mT 27 6 21,mT 28 7 21,oT 29 21 (.idxL 4 (tm 27) (tm 28)),oT 30 21 (.load 4 true (tm 29)),oT 31 21 (.call 29 [(tm 26),(tm 30)]),oT 32 21 (.bin .eql (tm 31) (Kc 0)),oo 33 (.pick (tm 21) (tm 32) kF)] []) (.cond (tm 33) (.seq (.region [oo 4 (.mov (.const .nil)),oo 5 (.mov (Kc 10))] []) .ret) .skip)))) (.region [oo 34 (.bin .add (tm 16) (Kc 1)),mv 16 34] []))))))) (.seq (.region [mv 35 6,mv 4 35,oo 5 (.mov (Kc 0))] []) .ret)))))
theorem l27:(Tryz.f27.body.bind (bp Tryz.prog 36 [77,78]))=some c27:=by kernel_rfl
def c28:bc:=(.seq (.region [oo 4 (.mov (.const .nil)),oo 5 (.mov (Kc 0))] []) (.seq (.region [mv 10 0,mv 6 10] []) (.seq (.seq (.region [oo 7 (.mov (Kc 0))] []) (.block 0 (.loop (.seq (.seq (.region [mv 11 7,mv 12 1,ln 13 12,oo 14 (.bin .lss (tm 11) (tm 13))] []) (.cond (tm 14) .skip (.exit 0))) (.seq (.block 1 (.seq (.region [mv 18 0,mv 19 1,mv 20 7,ix 21 4 19 20,fa 22 0 21,ld 23 22,mv 24 1,mv 25 7,ix 26 4 24 25,fa 27 1 26,ld 28 27,oo 29 (.call 26 [(tm 18),(tm 23),(tm 28)]),mv 17 29,oo 30 (.ext (tm 17) 0),oo 31 (.ext (tm 17) 1),⟨some 8,.alloc [S0,.nil,Z0,Z0],none,[]⟩,o0 (.store 4 (tm 8) (tm 30)),mv 9 31] []) (.seq (.seq (.region [mv 32 9] []) (.cond (tm 32) (.seq (.region [oo 4 (.mov (.const .nil)),oo 5 (.mov (Kc 10))] []) .ret) .skip)) (.region [mv 33 6,mv 34 1,mv 35 7,ix 36 4 34 35,lA 37 4 36,oo 38 (.call 62 [(tm 33),(tm 37)]),mv 6 38] [])))) (.region [mv 15 7,oo 16 (.bin .add (tm 15) (Kc 1)),mv 7 16] [])))))) (.seq (.region [mv 39 6,mv 4 39,oo 5 (.mov (Kc 0))] []) .ret))))
theorem l28:(Tryz.f28.body.bind (bp Tryz.prog 40 []))=some c28:=by kernel_rfl
end Go.ST2
end
section
namespace Go.ST
open Go Go.DL Go.MM Go.Proofs
theorem yW:kQ Tryz.prog 78 4:=
 kQ.of Tryz.xV 4 (fun w=>Tryz.isAgg64 w) (fun w=>Tryz.sizeOf64 w) (cC Tryz.func78 rfl rfl)
theorem xl {P:Program} {f:FuncId} {k:Nat} {u:V} {d:Option Nat} {st:St} {K:St→Prop} (hs:kQ P f k) (hk:K (st.set d (.t (.tup [])))):WC P f [.t .nil,u] d st K:=by
 refine ⟨hs.callable,fun N w0 S0 E a vs h hlen hv hd=>?_⟩
 have hsz:vs.size=2:=hlen
 have hv0:=(hv 0 vs[0] _ (by simp [hsz]) rfl).av
 have hvs:vs= #[vs[0],vs[1]]:=by
  apply Array.ext
  ·simp [hsz]
  ·intro i h1 h2
   match i,h1 with
   |0,_=>rfl
   |1,_=>rfl
   |i+2,h1=>omega
 have hsl:vs[0]= .slice none 0 0:=by
  generalize vs[0]=v at hv0
  cases hv0;rfl
 have hcall:=hs.none_ none 0 vs[1] E.w
 rw [← hsl, ←hvs] at hcall
 refine hcall.mono ?_
 rintro e' w' ⟨rfl,rfl⟩
 exact ⟨_,rfl,_,_,rfl,hk,dm h hd (.t _ _ (.tup #[] [] rfl fun i x t hx=>by simp at hx))⟩
def unI:T→Int
 |.int _ i=>i
 |_=>0
def unE:T→RE
 |.agg [.str v,.slice _ ks,.int _ n,.int _ t]=>⟨v,ks.map unI,n,t⟩
 |_=>⟨⟨#[]⟩,[],0,0⟩
theorem uO (e:RE):unE (rM e)=e:=by
 obtain ⟨v,k,n,t⟩:=e
 show RE.mk v ((k.map I).map unI) n t=_
 rw [List.map_map,show unI ∘ I=id from rfl,List.map_id]
def cfE (x y:T):Int:=rQ (unE x) (unE y)
theorem sV (a b:RE):cfE (rM a) (rM b)=rQ a b:=by unfold cfE;rw [uO,uO]
theorem yO {zs:List RE} {ys:List T} (h:ys.Perm (zs.map rM)): ∃us:List RE,us.Perm zs∧ys=us.map rM:=by
 refine ⟨ys.map unE,?_,?_⟩
 ·have:=h.map unE
  rw [List.map_map] at this
  rwa [show unE ∘ rM=id from funext uO,List.map_id] at this
 ·rw [List.map_map]
  have:ys.map (rM ∘ unE)=ys.map id:=List.map_congr_left fun y hy=>by
   obtain ⟨z,_,rfl⟩:=List.mem_map.1 (h.mem_iff.1 hy)
   show rM (unE (rM z))=rM z
   rw [uO]
  rw [this,List.map_id]
theorem vA {l:List RE} (h: ∃(i:Nat) (hi:i+1<l.length),rQ l[i] l[i+1]≠ -1):sL l=false:=by
 cases ho:sL l with
 |false=>rfl
 |true=>
  obtain ⟨i,hi,hne⟩:=h
  exact absurd (List.pairwise_iff_getElem.1 (sP.1 ho) i (i+1) (by omega) hi (by omega)) hne
theorem wo {l:List RE} (h: ∀(i:Nat) (hi:i+1<l.length),rQ l[i] l[i+1]= -1):sL l=true:=by
 induction l with
 |nil=>rfl
 |cons a r ih=>
  cases r with
  |nil=>rfl
  |cons b r=>
   show (decide (rQ a b= -1)&&sL (b::r))=true
   rw [Bool.and_eq_true]
   exact ⟨decide_eq_true (h 0 (by simp)),ih fun i hi=>h (i+1) (by simpa using hi)⟩
theorem yP {cs vs:List T} {n:Nat} (h:cs.length=n):aK cs 0 n vs=vs:=by
 unfold aK
 rw [List.take_zero,List.nil_append,List.drop_eq_nil_of_le (by omega),List.append_nil]
def zD:Option (List RE)→T
 |some zs=>.tup [esT zs,I 0]
 |none=>.tup [.nil,I 10]
theorem zW (a b:List RE) (ha:a.length<2^30) (hb:b.length<2^30) (hka: ∀x∈a,kOk x) (hkb: ∀x∈b,kOk x) (r:T) (e:Int)
  (hr: ∀zs:List RE,zs.Perm (a++b)→(zs.Pairwise fun x y=>rQ y x≠ -1)→(sL zs=true→r=esT zs∧e=0)∧(sL zs=false→r= .nil∧e=10)):DCalls Tryz.prog 27 [esT a,esT b] (.tup [r,I e]):=by
 refine qQ (rs:=[.tmp 4,.tmp 5]) mixed Tryz.func27 Go.ST2.l27 rfl rfl rfl (r:=[r,I e]) (nlZ rfl) ?_
 have hkab: ∀x∈a++b,kOk x:=fun x hx=>(List.mem_append.1 hx).elim (hka x) (hkb x)
 have hlen:(a++b).length<2^31:=by rw [List.length_append];omega
 repeat' ((conv=>whnf);first|refine yu a b ha hb rfl (fun h0=>?_) (fun h0=>?_)|refine aS ?_|fail)
 ·have:=hr [] (by rw [h0]) List.Pairwise.nil
  obtain ⟨rfl,rfl⟩:=this.1 rfl
  repeat' ((conv=>whnf);first|refine xl yW ?_|fail)
  refine qY 0 (α:=Unit) (β:=Unit) (fun _=>{sl:=[(6,.t .nil),(15,.t (I 0)),(16,.t (I 0))],bx:=[]}) (fun _=>True) (fun _=>0) (fun _=>{sl:=[(6,.t (esT []))],bx:=[]}) (fun _=>True) () trivial ?_ ?_ ?_
  ·repeat' (first|exact trivial|exact LeV.same _|exact rfl|exact fun _ _ _=>trivial|refine And.intro ?_ ?_)
  ·rintro - -
   repeat' ((conv=>whnf);first|(exact ⟨(),trivial,by (repeat' (first|(exact LeV.empty 4)|exact trivial|exact rfl|exact fun _ _ _=>trivial|refine And.intro ?_ ?_));done⟩)|refine aD0 ?_|refine aS ?_|fail)
  ·rintro - -
   repeat' ((conv=>whnf);first|exact trivial|refine rix ?_|refine aS ?_|fail)
 ·have hfl:=sj (a++b)
  have hch:chunk 4 (a++b).length (((a++b).flatMap rL).drop 0)=(a++b).map rM:=by rw [List.drop_zero];exact ux _
  have hk1: ∀x∈(a++b).map rM, ∃e:RE,x=rM e∧kOk e:=fun x hx=>by
   obtain ⟨e,he,rfl⟩:=List.mem_map.1 hx
   exact ⟨e,rfl,hkab e he⟩
  repeat' ((conv=>whnf);first|refine rp (n:=11) (off:=0) (len:=(a++b).length) (k:=4) (m:=(a++b).length * 4) (ts:=(a++b).flatMap rL) yW rfl (by omega) (by decide) (by omega) (.inl rfl) (cC Tryz.func29 rfl rfl) cfE ?_ ?_ ?_ ?_ (fun ys hy hps=>?_)|fail)
  ·rw [hch]
   intro x hx y hy
   obtain ⟨e,rfl,he⟩:=hk1 x hx
   obtain ⟨f,rfl,hf⟩:=hk1 y hy
   rw [sV]
   exact sK e f he hf
  ·rw [hch]
   intro x hx
   obtain ⟨e,rfl,he⟩:=hk1 x hx
   rw [sV,rO.refl];decide
  ·rw [hch]
   intro x hx y hy z hz
   obtain ⟨e,rfl, -⟩:=hk1 x hx
   obtain ⟨f,rfl, -⟩:=hk1 y hy
   obtain ⟨g,rfl, -⟩:=hk1 z hz
   rw [sV,sV,sV]
   intro h1 h2
   have:=rO.t e f g (by have:=rO.r e f;omega) (by have:=rO.r f g;omega)
   omega
  ·rw [hch]
   intro x hx y hy z hz
   obtain ⟨e,rfl, -⟩:=hk1 x hx
   obtain ⟨f,rfl, -⟩:=hk1 y hy
   obtain ⟨g,rfl, -⟩:=hk1 z hz
   rw [sV,sV,sV]
   intro h1 h2 h3
   have r1:=rO.r e f;have r2:=rO.r f g;have r3:=rO.r e g
   have s1:=rO.s e f;have s2:=rO.s f g
   rcases r1 with r1|r1|r1
   ·omega
   ·have:=rO.z e f r1 g;omega
   ·rcases r2 with r2|r2|r2
    ·omega
    ·have:=rO.z' r2 e;omega
    ·have:=rO.t g f e (by omega) (by omega)
     have:=rO.s e g
     omega
  ·rw [hch] at hy
   obtain ⟨zs,hp,rfl⟩:=yO hy
   have hpw:zs.Pairwise fun x y=>rQ y x≠ -1:=by
    refine (List.pairwise_map.1 hps).imp fun {x y} h=>?_
    rw [sV] at h
    omega
   obtain ⟨hrt,hrf⟩:=hr zs hp hpw
   have hzl:zs.length=(a++b).length:=hp.length_eq
   have hzk: ∀x∈zs,kOk x:=fun x hx=>hkab x (hp.mem_iff.1 hx)
   have hput:zs.flatMap rL=aK ((a++b).flatMap rL) 0 ((a++b).length * 4) ((zs.map rM).flatMap T.cells):=by rw [yP (sj _),tF]
   clear hr hch hk1 hps hy
   generalize (a++b).length=n at *
   generalize (a++b).flatMap rL=cs at *
   have hr0: ∀bx:Nat→Option BX,bx 11=some (.d (n * 4) (aK cs 0 (n * 4) ((zs.map rM).flatMap T.cells)))→conv bx (.view 11 0 n 4)=some (esT zs,[11]):=fun bx hb=>by
    have:conv bx (.view 11 0 n 4)=(match bx 11 with|some (.d m ts)=>cond (Nat.blt 0 4&&Nat.ble (0+n * 4) m) (some (T.slice 4 (chunk 4 n (ts.drop 0)),[11])) none|_=>none):=rfl
    rw [this,hb, ←hput]
    simp only
    have h1:Nat.ble (0+n * 4) (n * 4)=true:=Nat.ble_eq_true_of_le (by omega)
    rw [h1,List.drop_zero, ←hzl,ux zs]
    rfl
   have hmap:((zs.map rM).length:Int)=(n:Int):=by rw [List.length_map,hzl]
   refine qY 0 (α:=Nat) (β:=Unit) (fun i=>{sl:=[(6,.t (esT zs)),(15,.t (I n)),(16,.t (I i))],bx:=[]})
    (fun i=>i≤n∧ ∀j (h:j+1<zs.length),j+1<i→rQ zs[j] zs[j+1]= -1) (fun i=>n - i)
    (fun _=>{sl:=[(6,.t (esT zs))],bx:=[]}) (fun _=>sL zs=true) 0 ⟨Nat.zero_le _,fun j _ h=>by omega⟩ ?_ ?_ ?_
   ·repeat' (first|(exact LeV.conv _ _ _ (hr0 _ rfl) (fun n _ hk=>absurd (show n∈([]:List Nat) from hk) (by simp)))|exact trivial|exact LeV.same _|exact rfl|exact fun _ _ _=>trivial|refine And.intro ?_ ?_)
   ·rintro i ⟨hi,hinv⟩
    rcases Nat.lt_or_ge i n with h|h
    ·have hlt:(i:Int)<(n:Int):=by omega
     have hnx:((i+1:Nat):Int)=IntKind.wrap .i64 ((i:Int)+1):=by rw [mQ] <;> omega
     cases i with
     |zero=>
      repeat' ((conv=>whnf);first|refine qx hlt ?_|(exact ⟨1,⟨h,fun j _ hj=>by omega⟩,(by omega),by (repeat' (first|(exact leI hnx)|exact trivial|exact LeV.same _|exact rfl|exact fun _ _ _=>trivial|refine And.intro ?_ ?_));done⟩)|refine aN0 ?_|refine aS ?_|fail)
     |succ j=>
      have hgt:((j+1:Nat):Int)>0:=by omega
      have hj0:j<zs.length:=by omega
      have hj1:j+1<zs.length:=by omega
      have hw:IntKind.wrap .i64 (((j+1:Nat):Int) - 1)=(j:Int):=by rw [mQ] <;> omega
      have hg0:(zs.map rM)[(IntKind.wrap .i64 (((j+1:Nat):Int) - 1)).toNat]?.getD .nil= .agg (rL zs[j]):=by
       rw [hw,Int.toNat_natCast,rU hj0]
      have hg1:(zs.map rM)[((j+1:Nat):Int).toNat]?.getD .nil= .agg (rL zs[j+1]):=by
       rw [Int.toNat_natCast,rU hj1]
      have hb0:0≤IntKind.wrap .i64 (((j+1:Nat):Int) - 1)∧IntKind.wrap .i64 (((j+1:Nat):Int) - 1)<((zs.map rM).length:Int):=by rw [hw,hmap];omega
      have hb1:0≤((j+1:Nat):Int)∧((j+1:Nat):Int)<((zs.map rM).length:Int):=by rw [hmap];omega
      have hC:=sK zs[j] zs[j+1] (hzk _ (List.getElem_mem hj0)) (hzk _ (List.getElem_mem hj1))
      have hcr:=rO.r zs[j] zs[j+1]
      have hne:=List.pairwise_iff_getElem.1 hpw j (j+1) hj0 hj1 (by omega)
      have hcs:=rO.s zs[j] zs[j+1]
      by_cases hz:rQ zs[j] zs[j+1]=0
      ·obtain ⟨rfl,rfl⟩:=hrf (vA ⟨j,hj1,by omega⟩)
       repeat' ((conv=>whnf);first|exact trivial|refine qx hlt ?_|refine qx hgt ?_|(refine nv_ (.agg (rL zs[j])) (by first|exact hg0|fail) ?_)|(refine nv_ (.agg (rL zs[j+1])) (by first|exact hg1|fail) ?_)|refine rD _ (hC) ?_|refine qz hz ?_|refine nT_ ?_|refine rix ?_|(refine And.intro (by first|exact hb0|exact hb1|exact rN _|fail) ?_)|refine aS ?_|fail)
      ·have hinv': ∀k (hk:k+1<zs.length),k+1<j+1+1→rQ zs[k] zs[k+1]= -1:=fun k hk hk2=>by
        rcases Nat.lt_or_ge (k+1) (j+1) with h3|h3
        ·exact hinv k hk h3
        ·have:k=j:=by omega
         subst this;omega
       repeat' ((conv=>whnf);first|refine qx hlt ?_|refine qx hgt ?_|(refine nv_ (.agg (rL zs[j])) (by first|exact hg0|fail) ?_)|(refine nv_ (.agg (rL zs[j+1])) (by first|exact hg1|fail) ?_)|refine rD _ (hC) ?_|refine qy hz ?_|(exact ⟨j+1+1,⟨h,hinv'⟩,(by omega),by (repeat' (first|(exact leI hnx)|exact trivial|exact LeV.same _|exact rfl|exact fun _ _ _=>trivial|refine And.intro ?_ ?_));done⟩)|refine nT_ ?_|(refine And.intro (by first|exact hb0|exact hb1|exact rN _|fail) ?_)|refine aS ?_|fail)
    ·have hlt: ¬(i:Int)<(n:Int):=by omega
     have ho:sL zs=true:=wo fun j hj=>hinv j hj (by omega)
     repeat' ((conv=>whnf);first|refine qw hlt ?_|(exact ⟨(),ho,by (repeat' (first|exact trivial|exact LeV.same _|exact rfl|exact fun _ _ _=>trivial|refine And.intro ?_ ?_));done⟩)|refine aS ?_|fail)
   ·rintro - ho
    obtain ⟨rfl,rfl⟩:=hrt ho
    repeat' ((conv=>whnf);first|exact trivial|refine rix ?_|refine aS ?_|fail)
theorem xh (a b:List RE) (hia:rZ a) (hib:rZ b) (ha:a.length<2^30) (hb:b.length<2^30) (hka: ∀x∈a,kOk x) (hkb: ∀x∈b,kOk x):DCalls Tryz.prog 27 [esT a,esT b] (zD (si a b)):=by
 have hJ:=fun (zs:List RE) (hp:zs.Perm (a++b)) hs=>uS hia hib hp hs
 cases h:si a b with
 |none=>
  refine zW a b ha hb hka hkb .nil 10 fun zs hp hs=>⟨fun ho=>?_,fun _=>⟨rfl,rfl⟩⟩
  have:=hJ zs hp hs
  rw [h,if_pos ho] at this;cases this
 |some w=>
  refine zW a b ha hb hka hkb (esT w) 0 fun zs hp hs=>⟨fun ho=>?_,fun ho=>?_⟩
  ·have:=hJ zs hp hs
   rw [h,if_pos ho] at this;cases this
   exact ⟨rfl,rfl⟩
  ·have:=hJ zs hp hs
   rw [h,if_neg (by simp [ho])] at this;cases this
end Go.ST
end
section
namespace Go.ST
open Go Go.DL Go.MM Go.Proofs
open Go.TY hiding Fd
theorem ue: ∀{b:List RE} {a:List RE},rZ a→rZ (b.foldl (fun acc x=>rX x acc) a)∧(b.foldl (fun acc x=>rX x acc) a).length≤a.length+b.length∧ ∀x∈b.foldl (fun acc x=>rX x acc) a,x∈a∨x∈b
 |[],a,h=>⟨h,by simp,fun x hx=>Or.inl hx⟩
 |e::b,a,h=>by
  obtain ⟨h1,h2,h3⟩:=ue (b:=b) (h.put e)
  have hl:=zA h e
  refine ⟨h1,?_,fun x hx=>?_⟩
  ·show (b.foldl (fun acc x=>rX x acc) (rX e a)).length≤_
   rw [List.length_cons]
   split at hl <;> omega
  ·rcases h3 x hx with h4|h4
   ·rcases (uf h).1 h4 with rfl|h5
    ·exact Or.inr (by simp)
    ·exact Or.inl h5.1
   ·exact Or.inr (by simp [h4])
theorem Bn (a b:List RE) (hia:rZ a) (ha:a.length<2^28) (hb:b.length<2^28) (hka: ∀x∈a,kOk x) (hkb: ∀x∈b,kOk x):DCalls Tryz.prog 28 [esT a,esT b] (zD (si a b)):=by
 have hn:((b.map rM).length:Int)=b.length:=by rw [List.length_map]
 have go: ∀r e,(si a b=none→r= .nil∧e=10)→(∀ w,si a b=some w→r=esT w∧e=0)→DCalls Tryz.prog 28 [esT a,esT b] (.tup [r,I e]):=fun r e r0 r1=>by
  refine qQ (rs:=[.tmp 4,.tmp 5]) mixed Tryz.func28 Go.ST2.l28 rfl rfl rfl (r:=[r,I e]) (nlZ rfl) ?_
  skip
  refine qY 0 (α:=Nat) (β:=Unit) (fun i=>{sl:=[(0,.t (esT a)),(1,.t (esT b)),(6,.t (esT ((b.take i).foldl (fun acc x=>rX x acc) a))),(7,.t (I i))],bx:=[]})
   (fun i=>i≤b.length∧ ∀x∈b.take i,rV a x.var x.key=none) (fun i=>b.length - i)
   (fun _=>{sl:=[(6,.t (esT (b.foldl (fun acc x=>rX x acc) a)))],bx:=[]}) (fun _=> ∀x∈b,rV a x.var x.key=none) 0 ⟨by simp,by simp⟩ ?_ ?_ ?_
  ·repeat' (first|exact trivial|exact LeV.same _|exact rfl|exact fun _ _ _=>trivial|refine And.intro ?_ ?_)
  ·rintro i ⟨hi,hno⟩
   rcases Nat.lt_or_ge i b.length with h|h
   ·have hlt:(i:Int)<((b.map rM).length:Int):=by omega
    have hnx:((i+1:Nat):Int)=IntKind.wrap .i64 ((i:Int)+1):=by rw [mQ] <;> omega
    obtain ⟨o1,o2,o3⟩:=ue (b:=b.take i) hia
    rw [List.length_take] at o2
    have hx:=List.getElem_mem h
    have hF:=yR a (by omega) hka b[i].var b[i].key (hkb _ hx)
    have hP:=B4 ((b.take i).foldl (fun acc x=>rX x acc) a) (by omega) (fun x hx=>(o3 x hx).elim (hka x) fun h=>hkb x (List.mem_of_mem_take h)) b[i] (hkb _ hx)
    rw [yU o1] at hP
    have hg:=rU h
    have htk:(b.take (i+1)).foldl (fun acc x=>rX x acc) a=rX b[i] ((b.take i).foldl (fun acc x=>rX x acc) a):=by
     rw [List.take_succ_eq_append_getElem h,List.foldl_append];rfl
    have hno':rV a b[i].var b[i].key=none→ ∀x∈b.take (i+1),rV a x.var x.key=none:=fun hf x hx=>by
     rw [List.take_succ_eq_append_getElem h,List.mem_append,List.mem_singleton] at hx
     rcases hx with hx|rfl
     ·exact hno x hx
     ·exact hf
    have hsome:(rV a b[i].var b[i].key).isSome=true→si a b=none:=fun hs=>by
     unfold si
     rw [if_pos (List.any_eq_true.2 ⟨b[i],hx,hs⟩)]
    have hgv:(rL b[i])[0]?.getD .nil= .str b[i].var:=rfl
    have hgk:(rL b[i])[1]?.getD .nil= .slice 1 (b[i].key.map I):=rfl
    have e0:esT ((b.take (i+1)).foldl (fun acc x=>rX x acc) a)=esT (rX b[i] ((b.take i).foldl (fun acc x=>rX x acc) a)):=by rw [htk]
    generalize (b.take i).foldl (fun acc x=>rX x acc) a=out at *
    cases hf:rV a b[i].var b[i].key with
    |some y=>
     rw [hf] at hF hsome
     obtain ⟨rfl,rfl⟩:=r0 (hsome rfl)
     repeat' ((conv=>whnf);first|exact trivial|refine qx hlt ?_|(refine nv_ (.agg (rL b[i])) (by first|exact hg|fail) ?_)|refine rD _ (hF) ?_|refine nT_ ?_|refine rix ?_|refine aS ?_|fail)
    |none=>
     rw [hf] at hF
     have hno2:=hno' hf
     repeat' ((conv=>whnf);first|refine qx hlt ?_|(refine nv_ (.agg (rL b[i])) (by first|exact hg|fail) ?_)|refine rD _ (hF) ?_|refine rD _ (hP) ?_|(exact ⟨i+1,⟨h,hno2⟩,(by omega),by (repeat' (first|(exact leI hnx)|(exact leT e0)|exact trivial|exact LeV.same _|exact rfl|exact fun _ _ _=>trivial|refine And.intro ?_ ?_));done⟩)|refine nT_ ?_|(refine And.intro (by first|exact rN _|fail) ?_)|refine aS ?_|fail)
   ·have hlt: ¬(i:Int)<((b.map rM).length:Int):=by omega
    have hi2:i=b.length:=by omega
    rw [hi2,List.take_length] at hno
    have e0:esT (b.foldl (fun acc x=>rX x acc) a)=esT ((b.take i).foldl (fun acc x=>rX x acc) a):=by rw [hi2,List.take_length]
    repeat' ((conv=>whnf);first|refine qw hlt ?_|(exact ⟨(),hno,by (repeat' (first|(exact leT e0)|exact trivial|exact rfl|exact fun _ _ _=>trivial|refine And.intro ?_ ?_));done⟩)|refine aS ?_|fail)
  ·rintro - hno
   have hj:si a b=some (b.foldl (fun acc x=>rX x acc) a):=by
    unfold si
    rw [if_neg]
    rw [List.any_eq_true]
    rintro ⟨x,hx,hs⟩
    rw [hno x hx] at hs;cases hs
   obtain ⟨rfl,rfl⟩:=r1 _ hj
   repeat' ((conv=>whnf);first|exact trivial|refine rix ?_|refine aS ?_|fail)
 cases h:si a b with
 |none=>exact go .nil 10 (fun _=>⟨rfl,rfl⟩) (fun w hw=>by rw [h] at hw;cases hw)
 |some w=>exact go (esT w) 0 (fun hh=>by rw [h] at hh;cases hh) (fun v hv=>by rw [h] at hv;cases hv;exact ⟨rfl,rfl⟩)
end Go.ST
end
noncomputable section
namespace Go.ST4
open Go Go.DL Go.Proofs
def c58:bc:=(.seq (.region [oo 5 (.box 10 (tm 2)),oo 6 (.mov (.const .nil)),oo 7 (.mov kF)] []) (.seq (.region [oo 8 (.mov (.const .nil))] []) (.seq (.seq (.region [mv 13 1,ln 14 13,oo 15 (.mov (Kc 0))] []) (.block 0 (.loop (.seq (.region [oo 16 (.bin .lss (tm 15) (tm 14))] []) (.seq (.cond (tm 16) .skip (.exit 0)) (.seq (.block 1 (.seq (.region [ix 17 1 13 15,ld 18 17,mv 10 18] []) (.seq (.region [mv 20 0,mv 21 10,oo 22 (.call 107 [(tm 20),(tm 21)]),mv 19 22,oo 23 (.ext (tm 19) 0),oo 24 (.ext (tm 19) 1),⟨some 11,.alloc [S0,Z0,Z0],none,[]⟩,o0 (.store 3 (tm 11) (tm 23)),mv 12 24] []) (.seq (.seq (.region [mv 25 12,oo 26 (.not (tm 25))] []) (.cond (tm 26) (.seq (.region [oo 6 (.mov (.const .nil)),oo 7 (.mov kF)] []) .ret) .skip)) (.region [mv 27 8,lA 28 3 11,lA 29 10 5,oo 30 (.call 108 [(tm 28),(tm 29)]),oo 31 (.buildF 1 1 [Z0] [(0,(tm 30))]),oo 32 (.append 59 3 1 8 (tm 27) (tm 31)),mv 8 32] []))))) (.region [oo 33 (.bin .add (tm 15) (Kc 1)),mv 15 33] []))))))) (.seq (.region [mv 34 8,mv 6 34,oo 7 (.mov kT)] []) .ret))))
theorem l58:(Tryz.f58.body.bind (bp Tryz.prog 35 [8000031]))=some c58:=by kernel_rfl
def Co:bc:=(.seq (.region [mv 9 0,oo 10 (.nilck (tm 9)),fa 11 0 10,ld 12 11,mv 13 1,oo 14 (.call 107 [(tm 12),(tm 13)]),mv 8 14,oo 15 (.ext (tm 8) 0),oo 16 (.ext (tm 8) 1),⟨some 6,.alloc [S0,Z0,Z0],none,[]⟩,o0 (.store 3 (tm 6) (tm 15)),mv 7 16] []) (.seq (.region [mv 17 7] []) (.cond (tm 17) (.region [mv 18 0,lA 19 3 6,mv 20 0,oo 21 (.nilck (tm 20)),fa 22 8 21,lA 23 10 22,mv 24 2,lA 25 3 6,oo 26 (.call 141 [tm 25]),oo 27 (.minI (tm 24) (tm 26)),oo 28 (.call 140 [(tm 19),(tm 23),(tm 27)]),oo 29 (.nilck (tm 18)),fa 30 8 29,o0 (.store 10 (tm 30) (tm 28))] []) .skip)))
theorem tV:(Tryz.f106.body.bind (bp Tryz.prog 31 []))=some Co:=by kernel_rfl
def Cn:bc:=(.seq (.region [oo 2 (.mov kF)] []) (.seq (.seq (.region [mv 3 0,oo 4 (.nilck (tm 3)),fa 5 23 4,ld 6 5,oo 7 (.not (tm 6)),mv 8 7,mT 9 0 8,oT 10 8 (.nilck (tm 9)),oT 11 8 (.offA 7 (tm 10)),oT 12 8 (.load 1 false (tm 11)),mT 13 0 8,oT 14 8 (.nilck (tm 13)),oT 15 8 (.offA 1 (tm 14)),oT 16 8 (.offA 1 (tm 15)),oT 17 8 (.load 1 false (tm 16)),oT 18 8 (.call 22 [(tm 12),(tm 17)]),oT 19 8 (.len (tm 18)),oT 20 8 (.bin .geq (tm 19) (Kc 100)),oo 21 (.pick (tm 8) (tm 20) kF)] []) (.cond (tm 21) (.seq (.region [oo 2 (.mov kF)] []) .ret) .skip)) (.seq (.region [mv 22 0,mv 23 0,oo 24 (.nilck (tm 23)),fa 25 7 24,ld 26 25,mv 27 0,oo 28 (.nilck (tm 27)),fa 29 19 28,lA 30 4 29,oo 31 (.call 139 [(tm 26),(tm 30)]),oo 32 (.nilck (tm 22)),fa 33 7 32,o0 (.store 1 (tm 33) (tm 31))] []) (.seq (.region [oo 2 (.mov kT)] []) .ret))))
theorem sE:(Tryz.f105.body.bind (bp Tryz.prog 34 []))=some Cn:=by kernel_rfl
def c52:bc:=(.seq (.region [oo 2 (.mov kF)] []) (.seq (.region [mv 3 0,mv 4 0,mv 5 0,oo 6 (.nilck (tm 5)),fa 7 19 6,fa 8 2 7,ld 9 8,oo 10 (.bin .add (tm 9) (Kc 1)),oo 11 (.minI (tm 10) (Kc 65535)),mv 12 0,oo 13 (.nilck (tm 12)),fa 14 18 13,ld 15 14,oo 16 (.nilck (tm 3)),fa 17 19 16,fa 18 2 17,o0 (.store 1 (tm 18) (tm 11)),oo 19 (.nilck (tm 4)),fa 20 19 19,fa 21 3 20,o0 (.store 1 (tm 21) (tm 15))] []) (.seq (.seq (.region [mv 22 0,oo 23 (.inl 105 [tm 22]),oo 24 (.not (tm 23))] []) (.cond (tm 24) (.seq (.region [oo 2 (.mov kF)] []) .ret) .skip)) (.seq (.region [mv 25 0,mv 26 0,oo 27 (.nilck (tm 26)),fa 28 1 27,fa 29 3 28,ld 30 29,mv 31 0,oo 32 (.nilck (tm 31)),fa 33 19 32,fa 34 2 33,ld 35 34,oo 36 (.inl 106 [(tm 25),(tm 30),(tm 35)])] []) (.seq (.region [oo 2 (.mov kT)] []) .ret)))))
theorem l52:(Tryz.f52.body.bind (bp Tryz.prog 37 [105,106]))=some c52:=by kernel_rfl
def c53:bc:=(.seq (.region [oo 2 (.mov kF)] []) (.seq (.region [mv 3 0,mv 4 0,oo 5 (.nilck (tm 4)),fa 6 18 5,ld 7 6,oo 8 (.nilck (tm 3)),fa 9 19 8,fa 10 3 9,o0 (.store 1 (tm 10) (tm 7))] []) (.seq (.region [mv 11 0,oo 12 (.inl 105 [tm 11]),mv 2 12] []) .ret)))
theorem l53:(Tryz.f53.body.bind (bp Tryz.prog 13 [105]))=some c53:=by kernel_rfl
def c54:bc:=(.seq (.region [oo 2 (.mov kF)] []) (.seq (.region [mv 3 0,oo 4 (.nilck (tm 3)),fa 5 23 4,ld 6 5,mv 7 6,mT 8 0 7,oT 9 7 (.nilck (tm 8)),oT 10 7 (.offA 19 (tm 9)),oT 11 7 (.offA 3 (tm 10)),oT 12 7 (.load 1 false (tm 11)),mT 13 0 7,oT 14 7 (.nilck (tm 13)),oT 15 7 (.offA 18 (tm 14)),oT 16 7 (.load 1 false (tm 15)),mT 17 0 7,oT 18 7 (.nilck (tm 17)),oT 19 7 (.offA 1 (tm 18)),oT 20 7 (.offA 4 (tm 19)),oT 21 7 (.load 1 false (tm 20)),oT 22 7 (.bin .sub (tm 16) (tm 21)),oT 23 7 (.bin .geq (tm 12) (tm 22)),oo 24 (.pick (tm 7) (tm 23) kF),mv 2 24] []) .ret))
theorem l54:(Tryz.f54.body.bind (bp Tryz.prog 25 []))=some c54:=by kernel_rfl
def c55:bc:=(.seq (.region [oo 2 (.mov kF)] []) (.seq (.region [mv 6 0,mv 7 0,oo 8 (.nilck (tm 7)),fa 9 18 8,ld 10 9,oo 11 (.nilck (tm 6)),fa 12 19 11,fa 13 3 12,o0 (.store 1 (tm 13) (tm 10))] []) (.seq (.seq (.region [mv 14 0,oo 15 (.nilck (tm 14)),fa 16 23 15,ld 17 16,oo 18 (.not (tm 17))] []) (.cond (tm 18) (.seq (.region [oo 19 (.mkmap false [.int .i64]),mv 3 19] []) (.seq (.seq (.region [mv 20 0,oo 21 (.nilck (tm 20)),fa 22 7 21,ld 23 22,mv 24 0,oo 25 (.nilck (tm 24)),fa 26 1 25,fa 27 1 26,ld 28 27,oo 29 (.call 22 [(tm 23),(tm 28)]),ln 30 29,oo 31 (.mov (Kc 0))] []) (.block 0 (.loop (.seq (.region [oo 32 (.bin .lss (tm 31) (tm 30))] []) (.seq (.cond (tm 32) .skip (.exit 0)) (.seq (.block 1 (.seq (.region [ix 33 4 29 31,lA 34 4 33,⟨some 5,.alloc [S0,.nil,Z0,Z0],none,[]⟩,o0 (.store 4 (tm 5) (tm 34))] []) (.region [mv 35 3,fa 36 2 5,ld 37 36,o0 (.bw false [.int .i64] (tm 35) (tm 37) kT)] []))) (.region [oo 38 (.bin .add (tm 31) (Kc 1)),mv 31 38] []))))))) (.seq (.seq (.region [mv 39 0,mv 40 0,oo 41 (.nilck (tm 40)),fa 42 1 41,fa 43 4 42,ld 44 43,oo 45 (.nilck (tm 39)),fa 46 19 45,fa 47 2 46,o0 (.store 1 (tm 47) (tm 44))] []) (.block 2 (.loop (.seq (.seq (.region [mv 48 3,mv 49 0,oo 50 (.nilck (tm 49)),fa 51 19 50,fa 52 2 51,ld 53 52,oo 54 (.mlook false [.int .i64] (.bool false) false (tm 48) (tm 53))] []) (.cond (tm 54) .skip (.exit 2))) (.seq (.block 3 .skip) (.region [mv 55 0,oo 56 (.nilck (tm 55)),fa 57 19 56,fa 58 2 57,ld 59 58,oo 60 (.bin .add (tm 59) (Kc 1)),oo 61 (.nilck (tm 55)),fa 62 19 61,fa 63 2 62,o0 (.store 1 (tm 63) (tm 60))] [])))))) (.seq (.region [mv 64 0,oo 65 (.nilck (tm 64)),fa 66 19 65,fa 67 2 66,ld 68 67,mv 69 0,oo 70 (.nilck (tm 69)),fa 71 1 70,fa 72 5 71,ld 73 72,oo 74 (.bin .gtr (tm 68) (tm 73))] []) (.cond (tm 74) (.seq (.region [oo 2 (.mov kF)] []) .ret) .skip))))) .skip)) (.seq (.seq (.region [mv 75 0,oo 76 (.inl 105 [tm 75]),oo 77 (.not (tm 76))] []) (.cond (tm 77) (.seq (.region [oo 2 (.mov kF)] []) .ret) .skip)) (.seq (.region [mv 78 0,mv 79 0,oo 80 (.nilck (tm 79)),fa 81 1 80,fa 82 3 81,ld 83 82,mv 84 0,oo 85 (.nilck (tm 84)),fa 86 19 85,fa 87 2 86,ld 88 87,oo 89 (.inl 106 [(tm 78),(tm 83),(tm 88)])] []) (.seq (.region [oo 2 (.mov kT)] []) .ret))))))
theorem l55:(Tryz.f55.body.bind (bp Tryz.prog 90 [105,106]))=some c55:=by kernel_rfl
def Cr:bc:=(.seq (.region [oo 3 (.box 4 (tm 0)),oo 4 (.mov kF)] []) (.seq (.region [fa 5 0 3,ld 6 5,ld 7 1,oo 8 (.nilck (tm 7)),fa 9 1 8,fa 10 1 9,ld 11 10,oo 12 (.bin .eql (tm 6) (tm 11)),mv 13 12,oT 14 13 (.offA 2 (tm 3)),oT 15 13 (.load 1 false (tm 14)),oT 16 13 (.load 1 false (tm 2)),oT 17 13 (.bin .eql (tm 15) (tm 16)),oo 18 (.pick (tm 13) (tm 17) kF),mv 4 18] []) .ret))
theorem CS:(Tryz.f110.body.bind (bp Tryz.prog 19 []))=some Cr:=by kernel_rfl
def c57:bc:=(.seq (.region [oo 2 (.mov kF)] []) (.seq (.region [mv 7 0,oo 8 (.nilck (tm 7)),fa 9 19 8,mv 10 0,oo 11 (.nilck (tm 10)),fa 12 1 11,lA 13 6 12,⟨some 4,.alloc [Z0,S0,.nil,S0,Z0,Z0],none,[]⟩,mv 3 9,o0 (.store 6 (tm 4) (tm 13))] []) (.seq (.seq (.region [mv 14 0,oo 15 (.nilck (tm 14)),fa 16 23 15,ld 17 16,oo 18 (.not (tm 17))] []) (.cond (tm 18) (.region [mv 19 3,mv 20 3,fa 21 4 4,ld 22 21,mv 23 0,oo 24 (.nilck (tm 23)),fa 25 18 24,ld 26 25,oo 27 (.nilck (tm 19)),fa 28 2 27,o0 (.store 1 (tm 28) (tm 22)),oo 29 (.nilck (tm 20)),fa 30 3 29,o0 (.store 1 (tm 30) (tm 26))] []) .skip)) (.seq (.region [mv 31 0,oo 32 (.nilck (tm 31)),fa 33 18 32,ld 34 33,mv 35 3,oo 36 (.nilck (tm 35)),fa 37 3 36,ld 38 37,oo 39 (.bin .sub (tm 34) (tm 38)),oo 40 (.maxI (Kc 0) (tm 39)),fa 41 5 4,ld 42 41,oo 43 (.bin .quo (tm 40) (tm 42)),mv 5 43] []) (.seq (.seq (.region [mv 44 3,oo 45 (.nilck (tm 44)),fa 46 2 45,ld 47 46,mv 48 5,oo 49 (.bin .add (tm 47) (tm 48)),fa 50 4 4,ld 51 50,oo 52 (.bin .geq (tm 49) (tm 51))] []) (.cond (tm 52) (.region [mv 53 3,mv 54 3,fa 55 4 4,ld 56 55,mv 57 0,oo 58 (.nilck (tm 57)),fa 59 18 58,ld 60 59,oo 61 (.nilck (tm 53)),fa 62 2 61,o0 (.store 1 (tm 62) (tm 56)),oo 63 (.nilck (tm 54)),fa 64 3 63,o0 (.store 1 (tm 64) (tm 60))] []) (.region [mv 65 3,mv 66 3,mv 67 3,oo 68 (.nilck (tm 67)),fa 69 2 68,ld 70 69,mv 71 5,oo 72 (.bin .add (tm 70) (tm 71)),mv 73 3,oo 74 (.nilck (tm 73)),fa 75 3 74,ld 76 75,mv 77 5,fa 78 5 4,ld 79 78,oo 80 (.bin .mul (tm 77) (tm 79)),oo 81 (.bin .add (tm 76) (tm 80)),oo 82 (.nilck (tm 65)),fa 83 2 82,o0 (.store 1 (tm 83) (tm 72)),oo 84 (.nilck (tm 66)),fa 85 3 84,o0 (.store 1 (tm 85) (tm 81))] [[],[],[],[],[],[],[],[],[],[],[],[],[],[],[],[],[],[],[],[14],[],[],[]]))) (.seq (.region [mv 86 3,oo 87 (.nilck (tm 86)),fa 88 2 87,ld 89 88,oo 90 (.bin .gtr (tm 89) (Kc 0)),mv 6 90] []) (.seq (.seq (.region [mv 91 6] []) (.cond (tm 91) (.region [mv 92 3,oo 93 (.nilck (tm 92)),fa 94 2 93,ld 95 94,oo 96 (.bin .sub (tm 95) (Kc 1)),oo 97 (.nilck (tm 92)),fa 98 2 97,o0 (.store 1 (tm 98) (tm 96))] []) .skip)) (.seq (.region [mv 99 0,oo 100 (.inl 105 [tm 99]),mv 101 100,mT 102 6 101,oo 103 (.pick (tm 101) (tm 102) kF),mv 2 103] []) .ret))))))))
theorem l57:(Tryz.f57.body.bind (bp Tryz.prog 104 [105]))=some c57:=by kernel_rfl
end Go.ST4
end
section
namespace Go.ST
open Go Go.DL Go.MM Go.Proofs
open Go.TY hiding Fd
abbrev fdc (l:List Fd) (k:ByteArray):T:=.agg [.str (fld l k).name,I (fld l k).a,I (fld l k).w]
theorem vS (l:List Fd) (hl:LOk l) (k:ByteArray):DCalls Tryz.prog 107 [fds l,.str k] (.tup [fdc l k,.bool (rY l k)]):=by
 have h:=t74 l k hl.len
 unfold uI at h
 unfold fdc fld rY
 cases hF:findF l k with
 |none=>rw [hF] at h;exact h
 |some F=>rw [hF] at h;exact h
theorem AO (l:List Fd) (hl:LOk l) (k:ByteArray):DCalls Tryz.prog 17 [fds l,.str k] (.tup [fdc l k,.bool (rY l k)]):=by
 have h:=t51 l k hl.len
 unfold uI at h
 unfold fdc fld rY
 cases hF:findF l k with
 |none=>rw [hF] at h;exact h
 |some F=>rw [hF] at h;exact h
theorem vm {l:List Fd} (hl:LOk l) {k:ByteArray} (h:rY l k=true):FOk (fld l k):=by
 unfold rY at h
 obtain ⟨F,hF⟩:=Option.isSome_iff_exists.1 h
 rw [yB hF]
 exact hl.find hF
theorem ten {h:List Int} (hh:HOk h): ∃a b c d e f g i j k,h=[a,b,c,d,e,f,g,i,j,k]:=by
 have hl:=hh.len
 match h,hl with
 |[a,b,c,d,e,f,g,i,j,k],_=>exact ⟨a,b,c,d,e,f,g,i,j,k,rfl⟩
theorem xU (l:List Fd) (ks:List ByteArray) (h:List Int) {i:Nat} (hi:i<ks.length):(keyOf l (ks.take (i+1)) h).map I=(keyOf l (ks.take i) h).map I++[I (sN (fld l ks[i]) h)]:=by
 unfold keyOf
 rw [List.take_succ_eq_append_getElem hi,List.map_append,List.map_append];rfl
theorem B9 (l:List Fd) (hl:LOk l) (ks:List ByteArray) (hk: ∀k∈ks,rY l k=true) (hkl:ks.length<2^40) (h:List Int) (hh:HOk h):DCalls Tryz.prog 58 [fds l,.slice 1 (ks.map .str),hd h] (.tup [.slice 1 ((keyOf l ks h).map I),.bool true]):=by
 refine qQ (rs:=[.tmp 6,.tmp 7]) mixed Tryz.func58 Go.ST4.l58 rfl rfl rfl (r:=[.slice 1 _,.bool true]) (nlZ rfl) ?_
 have hl1:((ks.map T.str).length:Int)=ks.length:=by rw [List.length_map]
 have hG: ∀f,FOk f→DCalls Tryz.prog 108 [fd f,hd h] (I (sN f h)):=fun f hf=>t78 f hf h hh
 obtain ⟨x0,x1,x2,x3,x4,x5,x6,x7,x8,x9,rfl⟩:=ten hh
 repeat' ((conv=>whnf);first|refine aS ?_|fail)
 refine qY 0 (α:=Nat×Nat) (β:=Nat) (fun q=>{sl:=[(0,.t (fds l)),(5,.ptr 5 0),(8,.own q.2 3 1 ((keyOf l (ks.take q.1) [x0,x1,x2,x3,x4,x5,x6,x7,x8,x9]).map I)),(13,.t (.slice 1 (ks.map .str))),(14,.t (I ks.length)),(15,.t (I q.1))],bx:=[(5,.d 10 ([x0,x1,x2,x3,x4,x5,x6,x7,x8,x9].map I))]})
  (fun q=>q.1≤ks.length∧(q.2=8∨q.2=32)) (fun q=>ks.length - q.1) (fun q=>{sl:=[(8,.own q 3 1 ((keyOf l ks [x0,x1,x2,x3,x4,x5,x6,x7,x8,x9]).map I))],bx:=[]}) (fun q=>q=8∨q=32) (0,8) ⟨Nat.zero_le _,Or.inl rfl⟩ ?_ ?_ ?_
 ·repeat' (first|(exact leI hl1.symm)|exact trivial|exact LeV.same _|exact LeB.same _|exact rfl|exact fun _ _ _=>trivial|exact LeV.nil _ _ _|refine And.intro ?_ ?_)
 ·rintro ⟨i,q⟩ ⟨hi,hq⟩
  dsimp only at hi hq
  rcases Nat.lt_or_ge i ks.length with h|h
  ·have hlt:(i:Int)<(ks.length:Int):=by omega
   have hf:=hk ks[i] (List.getElem_mem h)
   have hF:=vS l hl ks[i]
   rw [hf] at hF
   have hGf:=hG _ (vm hl hf)
   have hnx:((i+1:Nat):Int)=IntKind.wrap .i64 ((i:Int)+1):=by rw [mQ] <;> omega
   have hsn:=xU l ks [x0,x1,x2,x3,x4,x5,x6,x7,x8,x9] h
   have hln:((keyOf l (ks.take i) [x0,x1,x2,x3,x4,x5,x6,x7,x8,x9]).map I).length≤2^40:=by unfold keyOf;simp only [List.length_map,List.length_take];omega
   have hst:(ks.map T.str)[((i:Int)).toNat]?.getD .nil= .str ks[i]:=by simp [h]
   generalize (keyOf l (ks.take i) [x0,x1,x2,x3,x4,x5,x6,x7,x8,x9]).map I=out at *
   generalize sN (fld l ks[i]) [x0,x1,x2,x3,x4,x5,x6,x7,x8,x9]=g at *
   rcases hq with rfl|rfl <;> repeat' ((conv=>whnf);first|refine qx hlt ?_|(refine nv_ (.str ks[i]) (by first|exact hst|fail) ?_)|refine rD _ (hF) ?_|refine rD _ (hGf) ?_|(exact ⟨(i+1,32),⟨h,Or.inr rfl⟩,(by dsimp only;omega),by (repeat' (first|(exact leI hnx)|(exact rH hsn)|exact trivial|exact LeV.same _|exact LeB.same _|exact rfl|exact fun _ _ _=>trivial|refine And.intro ?_ ?_));done⟩)|refine nT_ ?_|(refine And.intro (by first|((simp only [List.length_cons,List.length_nil];omega);done)|fail) ?_)|refine aS ?_|fail)
  ·have hlt: ¬(i:Int)<(ks.length:Int):=by omega
   have hi2:i=ks.length:=by omega
   have e0:(keyOf l ks [x0,x1,x2,x3,x4,x5,x6,x7,x8,x9]).map I=(keyOf l (ks.take i) [x0,x1,x2,x3,x4,x5,x6,x7,x8,x9]).map I:=by rw [hi2,List.take_length]
   repeat' ((conv=>whnf);first|refine qw hlt ?_|(exact ⟨q,hq,by (repeat' (first|(exact rH e0)|exact trivial|exact rfl|exact fun _ _ _=>trivial|refine And.intro ?_ ?_));done⟩)|refine aS ?_|fail)
 ·rintro q hq
  repeat' ((conv=>whnf);first|exact trivial|refine rb1 ?_|refine aS ?_|fail)
end Go.ST
end
noncomputable section
namespace Go.ST3
open Go Go.DL Go.Proofs
theorem mx:Tryz.prog.follows .mixedOrders=true:=by kernel_rfl
def b11:Code:=(Tryz.f11.body).getD .skip
theorem Bd:Tryz.f11.body=some b11:=by kernel_rfl
def yd:Code:=ij [0] b11
def zZ:bc:=(.region [oo 6 (.box 6 (tm 1)),oo 8 (.box 10 (tm 3)),oo 10 (.alloc [Z0,Z0,Z0,Z0,Z0,Z0,Z0,Z0,Z0,Z0]),oo 11 (.mov kF),oo 12 (.mov (.const .nil))] [])
theorem BV:bp Tryz.prog 84 [] yd=some zZ:=by kernel_rfl
theorem zX [Glb] {st:St} {Q:aB→St→Prop} (hw:wpC Tryz.prog zZ st Q):bN Tryz.prog 84 yd st Q:=bN.low mx BV (by kernel_rfl) (by kernel_rfl) hw
def ye:Code:=ij [1,0] b11
def Aa:bc:=(.seq (.region [fa 17 0 6,ld 18 17,oo 19 (.bin .eql (tm 18) (Kc 0))] []) (.cond (tm 19) (.seq (.region [lA 20 10 8,mv 21 2,o0 (.store 10 (tm 10) (tm 20)),oo 11 (.mov kT),mv 12 21] []) .ret) .skip))
theorem BW:bp Tryz.prog 84 [] ye=some Aa:=by kernel_rfl
theorem zY [Glb] {st:St} {Q:aB→St→Prop} (hw:wpC Tryz.prog Aa st Q):bN Tryz.prog 84 ye st Q:=bN.low mx BW (by kernel_rfl) (by kernel_rfl) hw
def yf:Code:=ij [1,1,0] b11
def Ab:bc:=(.region [oo 22 (.build [.nilfn,.nilfn,.nilfn,.nilfn,.nilfn,.nilfn,.nilfn] [(0,1,(.const .nilfn)),(1,1,(.const (.clos 52 []))),(2,1,(.const (.clos 53 []))),(3,1,(.const (.clos 54 []))),(4,1,(.const (.clos 55 []))),(5,1,(.const (.clos 56 []))),(6,1,(.const (.clos 57 [])))]),oo 13 (.alloc [.nilfn,.nilfn,.nilfn,.nilfn,.nilfn,.nilfn,.nilfn]),o0 (.store 7 (tm 13) (tm 22))] [])
theorem BY:bp Tryz.prog 84 [] yf=some Ab:=by kernel_rfl
theorem BN [Glb] {st:St} {Q:aB→St→Prop} (hw:wpC Tryz.prog Ab st Q):bN Tryz.prog 84 yf st Q:=bN.low mx BY (by kernel_rfl) (by kernel_rfl) hw
def yg:Code:=ij [1,1,1,0] b11
def Ac:bc:=(.region [mv 24 0,fa 25 2 6,ld 26 25,lA 27 10 8,oo 28 (.call 58 [(tm 24),(tm 26),(tm 27)]),mv 23 28,oo 29 (.ext (tm 23) 0),oo 30 (.ext (tm 23) 1),mv 14 29,mv 15 30] [])
theorem BZ:bp Tryz.prog 84 [] yg=some Ac:=by kernel_rfl
theorem BO [Glb] {st:St} {Q:aB→St→Prop} (hw:wpC Tryz.prog Ac st Q):bN Tryz.prog 84 yg st Q:=bN.low mx BZ (by kernel_rfl) (by kernel_rfl) hw
def yh:Code:=ij [1,1,1,1,0] b11
def Ad:bc:=(.region [mv 31 0,lA 32 6 6,mv 33 2,lA 34 10 8,mv 35 4,⟨some 36,.build [.nil,Z0,S0,.nil,S0,Z0,Z0,.nil,Z0,Z0,Z0,Z0,Z0,Z0,Z0,Z0,Z0,Z0,Z0,S0,.nil,Z0,Z0,(.bool false)] [(0,1,(tm 31)),(1,6,(tm 32)),(7,1,(tm 33)),(8,10,(tm 34)),(18,1,(tm 35))],none,[]⟩,oo 37 (.box 24 (tm 36)),mv 16 37] [])
theorem B0:bp Tryz.prog 84 [] yh=some Ad:=by kernel_rfl
theorem BP [Glb] {st:St} {Q:aB→St→Prop} (hw:wpC Tryz.prog Ad st Q):bN Tryz.prog 84 yh st Q:=bN.low mx B0 (by kernel_rfl) (by kernel_rfl) hw
def yi:Code:=ij [1,1,1,1,1,0] b11
def Ae:bc:=(.seq (.region [mv 39 16,mv 40 16,mv 41 2,fa 42 1 6,ld 43 42,mv 44 14,oo 45 (.call 25 [(tm 41),(tm 43),(tm 44)]),mv 38 45,oo 46 (.ext (tm 38) 0),oo 47 (.ext (tm 38) 1),oo 48 (.nilck (tm 39)),fa 49 19 48,o0 (.store 4 (tm 49) (tm 46)),oo 50 (.nilck (tm 40)),fa 51 23 50,o0 (.store 1 (tm 51) (tm 47))] []) (.seq (.region [mv 52 16,oo 53 (.nilck (tm 52)),fa 54 23 53,ld 55 54,oo 56 (.not (tm 55))] []) (.cond (tm 56) (.region [mv 57 16,fa 58 1 6,ld 59 58,mv 60 14,⟨some 61,.build [S0,.nil,Z0,Z0] [(0,1,(tm 59)),(1,1,(tm 60))],none,[]⟩,oo 62 (.nilck (tm 57)),fa 63 19 62,o0 (.store 4 (tm 63) (tm 61))] []) .skip)))
theorem B1:bp Tryz.prog 84 [] yi=some Ae:=by kernel_rfl
theorem BQ [Glb] {st:St} {Q:aB→St→Prop} (hw:wpC Tryz.prog Ae st Q):bN Tryz.prog 84 yi st Q:=bN.low mx B1 (by kernel_rfl) (by kernel_rfl) hw
def sZ:Code:=ij [1,1,1,1,1,1,0,0] b11
theorem BE:sZ= .region 9 (rK sZ) false:=by kernel_rfl
theorem ur [Glb] {st:St} {Q:aB→St→Prop} (hw:bd Tryz.prog [⟨some 64,.offA 0 (.tmp 6),none,[]⟩,⟨some 65,.load 1 false (.tmp 64),none,[]⟩,⟨some 66,.idxA 7 1 (.tmp 13) (.tmp 65),none,[]⟩,⟨some 67,.load 1 false (.tmp 66),none,[]⟩,⟨some 68,.mov (.tmp 16),none,[]⟩] st fun s0=>jW Tryz.prog (ev s0.sl (.tmp 67)) (List.map (ev s0.sl) [(.tmp 68)]) (some 69) s0 fun s1=>bd Tryz.prog [⟨some 70,.not (.tmp 69),none,[]⟩] s1 (Q .normal)):bN Tryz.prog 84 sZ st Q:=by
 rw [BE]
 exact bN.rB (k1:=[0,1,2,3,4]) (k:=5) (k2:=[6]) (by kernel_rfl) (by kernel_rfl) (by kernel_rfl) (by kernel_rfl) (by kernel_rfl) (X:=.tmp 67) (az:= #[.tmp 68]) (ats:= #[105]) (d:=69) (by kernel_rfl) rfl rfl (by decide) hw
def vC:Code:=ij [1,1,1,1,1,1,0,1] b11
def Af:bc:=(.cond (tm 70) (.seq (.region [lA 71 10 8,mv 72 16,oo 73 (.nilck (tm 72)),fa 74 7 73,ld 75 74,o0 (.store 10 (tm 10) (tm 71)),oo 11 (.mov kF),mv 12 75] [[],[],[],[],[],[4],[],[]]) .ret) .skip)
theorem B2:bp Tryz.prog 84 [] vC=some Af:=by kernel_rfl
theorem BR [Glb] {st:St} {Q:aB→St→Prop} (hw:wpC Tryz.prog Af st Q):bN Tryz.prog 84 vC st Q:=bN.low mx B2 (by kernel_rfl) (by kernel_rfl) hw
def vD:Code:=ij [1,1,1,1,1,1,1] b11
def Ag:bc:=(.seq (.region [mv 76 16,oo 77 (.nilck (tm 76)),fa 78 8 77,lA 79 10 78,mv 80 16,oo 81 (.nilck (tm 80)),fa 82 7 81,ld 83 82,o0 (.store 10 (tm 10) (tm 79)),oo 11 (.mov kT),mv 12 83] [[],[],[],[],[],[],[],[],[7],[],[]]) .ret)
theorem B3:bp Tryz.prog 84 [] vD=some Ag:=by kernel_rfl
theorem BS [Glb] {st:St} {Q:aB→St→Prop} (hw:wpC Tryz.prog Ag st Q):bN Tryz.prog 84 vD st Q:=bN.low mx B3 (by kernel_rfl) (by kernel_rfl) hw
theorem k11:b11=(.seq yd (.seq ye (.seq yf (.seq yg (.seq yh (.seq yi (.seq (.seq sZ vC) vD))))))):=by kernel_rfl
end Go.ST3
end
section
namespace Go.ST
open Go Go.DL Go.MM Go.Proofs
open Go.TY hiding Fd
theorem WC.toM {P:Program} {f:FuncId} {us:List V} {d:Option Nat} {st:St} {K:St→Prop} (h:WC P f us d st K):WCM P f us d st K:=by
 refine ⟨h.1,fun N w0 S0 E a vs hs hlen hv hd=>(h.2 N w0 S0 E a vs hs hlen hv hd).mono ?_⟩
 rintro e w' ⟨v,rfl,E',st',h1,h2,h3⟩
 exact ⟨v,rfl,S0,E',st',Ext.refl _,h1,h2,h3⟩
abbrev dL (l:List Fd) (s:RS) (st:List RE) (x0 x1 x2 x3 x4 x5 x6 x7 x8 x9 tick:Int) (e:RE) (is:Bool):List T:=
 [fds l,I s.kind,.str s.var,.slice 1 (s.key.map .str),.str s.field,I s.n,I s.m,esT st,I x0,I x1,I x2,I x3,I x4,I x5,I x6,I x7,I x8,I x9,I tick,.str e.var,.slice 1 (e.key.map I),I e.n,I e.at_,.bool is]
abbrev Bg:List T:=[.nilfn,.clos 52 [],.clos 53 [],.clos 54 [],.clos 55 [],.clos 56 [],.clos 57 []]
abbrev z10:List T:=[I 0,I 0,I 0,I 0,I 0,I 0,I 0,I 0,I 0,I 0]
section
variable (l:List Fd) (s:RS) (st:List RE) (x0 x1 x2 x3 x4 x5 x6 x7 x8 x9 tick:Int) (e:RE) (is:Bool)
abbrev S0:Wk:={sl:=[(6,.ptr 6 0),(8,.ptr 8 0),(10,.ptr 10 0),(13,.ptr 13 0),(16,.ptr 37 0)],bx:=[(6,.d 6 (tX s)),(8,.d 10 [I x0,I x1,I x2,I x3,I x4,I x5,I x6,I x7,I x8,I x9]),(10,.d 10 z10),(13,.d 7 Bg),(37,.d 24 (dL l s st x0 x1 x2 x3 x4 x5 x6 x7 x8 x9 tick e is))]}
abbrev S1 (st':List RE) (y0 y1 y2 y3 y4 y5 y6 y7 y8 y9:Int) (e':RE) (pass:Bool):Wk:={sl:=[(8,.ptr 8 0),(10,.ptr 10 0),(16,.ptr 37 0),(70,.t (.bool (!pass)))],bx:=[(8,.d 10 [I x0,I x1,I x2,I x3,I x4,I x5,I x6,I x7,I x8,I x9]),(10,.d 10 z10),(37,.d 24 (dL l s st' y0 y1 y2 y3 y4 y5 y6 y7 y8 y9 tick e' is))]}
end
variable {l:List Fd} {s:RS} {st:List RE} {x0 x1 x2 x3 x4 x5 x6 x7 x8 x9 tick:Int} {e:RE} {is:Bool}
attribute [local irreducible] bN WCM YC
theorem Ay (hk:s.kind=3) (b:Bool) (hb:b=(is&&decide (e.at_≥tick - s.n))) (h1: -2^40<tick∧tick<2^40) (h2: -2^40<s.n∧s.n<2^40):
  bN Tryz.prog 84 Go.ST3.sZ (S0 l s st x0 x1 x2 x3 x4 x5 x6 x7 x8 x9 tick e is).mk' (fun ex s'=>ex= .normal∧bO (S1 l s x0 x1 x2 x3 x4 x5 x6 x7 x8 x9 tick is st x0 x1 x2 x3 x4 x5 x6 x7 x8 x9 e b) s'):=by
 obtain ⟨kk,var,key,field,n,m⟩:=s
 dsimp only at hk h2 hb
 subst hk
 have hw:IntKind.wrap .i64 (tick - n)=tick - n:=mQ (by omega) (by omega)
 refine Go.ST3.ur ?_
 cases is with
 |false=>
  subst hb
  repeat' ((conv=>whnf);first|refine WC.toM (ry mixed Tryz.func54 Go.ST4.l54 rfl rfl (rs:=[.tmp 2]) rfl 3000 (nlZ rfl) ?_)|refine nT_ ?_|refine aS ?_|fail)
  refine ⟨_,rfl,?_⟩
  repeat' ((conv=>whnf);first|(exact ⟨rfl,by (repeat' (first|exact trivial|exact LeV.same _|exact LeB.same _|exact rfl|exact fun _ _ _=>trivial|refine And.intro ?_ ?_));done⟩)|fail)
 |true=>
  by_cases c:e.at_≥tick - n
  ·have hc:e.at_≥IntKind.wrap .i64 (tick - n):=by rw [hw];exact c
   obtain rfl:b=true:=by rw [hb,decide_eq_true c];rfl
   repeat' ((conv=>whnf);first|refine WC.toM (ry mixed Tryz.func54 Go.ST4.l54 rfl rfl (rs:=[.tmp 2]) rfl 3000 (nlZ rfl) ?_)|refine qx hc ?_|refine nT_ ?_|refine aS ?_|fail)
   refine ⟨_,rfl,?_⟩
   repeat' ((conv=>whnf);first|(exact ⟨rfl,by (repeat' (first|exact trivial|exact LeV.same _|exact LeB.same _|exact rfl|exact fun _ _ _=>trivial|refine And.intro ?_ ?_));done⟩)|fail)
  ·have hc: ¬e.at_≥IntKind.wrap .i64 (tick - n):=by rw [hw];exact c
   obtain rfl:b=false:=by rw [hb,decide_eq_false c];rfl
   repeat' ((conv=>whnf);first|refine WC.toM (ry mixed Tryz.func54 Go.ST4.l54 rfl rfl (rs:=[.tmp 2]) rfl 3000 (nlZ rfl) ?_)|refine qw hc ?_|refine nT_ ?_|refine aS ?_|fail)
   refine ⟨_,rfl,?_⟩
   repeat' ((conv=>whnf);first|(exact ⟨rfl,by (repeat' (first|exact trivial|exact LeV.same _|exact LeB.same _|exact rfl|exact fun _ _ _=>trivial|refine And.intro ?_ ?_));done⟩)|fail)
end Go.ST
end
section
namespace Go.ST
open Go Go.DL Go.MM Go.Proofs
open Go.TY hiding Fd
variable {l:List Fd} {s:RS} {st st' o:List RE} {x0 x1 x2 x3 x4 x5 x6 x7 x8 x9 tick:Int} {e:RE} {is:Bool}
attribute [local irreducible] bN WCM YC
theorem Bf (hk:s.kind=2) (hOf:DCalls Tryz.prog 22 [esT st,.str s.var] (esT o)) (hput:DCalls Tryz.prog 139 [esT st,rM ⟨e.var,e.key,e.n,tick⟩] (esT st')) (full:Bool) (hf:full=(!is&&decide (100≤o.length))):
  bN Tryz.prog 84 Go.ST3.sZ (S0 l s st x0 x1 x2 x3 x4 x5 x6 x7 x8 x9 tick e is).mk' (fun ex s'=>ex= .normal∧bO (S1 l s x0 x1 x2 x3 x4 x5 x6 x7 x8 x9 tick is (if full then st else st') x0 x1 x2 x3 x4 x5 x6 x7 x8 x9 ⟨e.var,e.key,e.n,tick⟩ (!full)) s'):=by
 obtain ⟨kk,var,key,field,n,m⟩:=s
 dsimp only at hk hOf
 subst hk
 have hol:((o.map rM).length:Int)=o.length:=by rw [List.length_map]
 refine Go.ST3.ur ?_
 cases is with
 |true=>
  obtain rfl:full=false:=by rw [hf];rfl
  repeat' ((conv=>whnf);first|refine WC.toM (ry mixed Tryz.func53 Go.ST4.l53 rfl rfl (rs:=[.tmp 2]) rfl 3000 (nlZ rfl) ?_)|refine nT_ ?_|refine aS ?_|fail)
  repeat' ((conv=>whnf);first|refine ry mixed Tryz.func105 Go.ST4.sE rfl rfl (rs:=[.tmp 2]) rfl 3100 (nlZ rfl) ?_|refine nT_ ?_|refine aS ?_|fail)
  repeat' ((conv=>whnf);first|refine rD _ (hput) ?_|refine aS ?_|fail)
  refine ⟨_,rfl,?_⟩
  skip
  refine ⟨_,rfl,?_⟩
  repeat' ((conv=>whnf);first|(exact ⟨rfl,by (repeat' (first|exact trivial|exact LeV.same _|exact LeB.same _|exact rfl|exact fun _ _ _=>trivial|refine And.intro ?_ ?_));done⟩)|fail)
 |false=>
  by_cases c:100≤o.length
  ·obtain rfl:full=true:=by rw [hf,decide_eq_true c];rfl
   have hc:((o.map rM).length:Int)≥100:=by omega
   repeat' ((conv=>whnf);first|refine WC.toM (ry mixed Tryz.func53 Go.ST4.l53 rfl rfl (rs:=[.tmp 2]) rfl 3000 (nlZ rfl) ?_)|refine nT_ ?_|refine aS ?_|fail)
   repeat' ((conv=>whnf);first|refine ry mixed Tryz.func105 Go.ST4.sE rfl rfl (rs:=[.tmp 2]) rfl 3100 (nlZ rfl) ?_|refine nT_ ?_|refine aS ?_|fail)
   repeat' ((conv=>whnf);first|refine rD _ (hOf) ?_|refine qx hc ?_|refine aS ?_|fail)
   refine ⟨_,rfl,?_⟩
   skip
   refine ⟨_,rfl,?_⟩
   repeat' ((conv=>whnf);first|(exact ⟨rfl,by (repeat' (first|exact trivial|exact LeV.same _|exact LeB.same _|exact rfl|exact fun _ _ _=>trivial|refine And.intro ?_ ?_));done⟩)|fail)
  ·obtain rfl:full=false:=by rw [hf,decide_eq_false c];rfl
   have hc: ¬((o.map rM).length:Int)≥100:=by omega
   repeat' ((conv=>whnf);first|refine WC.toM (ry mixed Tryz.func53 Go.ST4.l53 rfl rfl (rs:=[.tmp 2]) rfl 3000 (nlZ rfl) ?_)|refine nT_ ?_|refine aS ?_|fail)
   repeat' ((conv=>whnf);first|refine ry mixed Tryz.func105 Go.ST4.sE rfl rfl (rs:=[.tmp 2]) rfl 3100 (nlZ rfl) ?_|refine nT_ ?_|refine aS ?_|fail)
   repeat' ((conv=>whnf);first|refine rD _ (hOf) ?_|refine qw hc ?_|refine rD _ (hput) ?_|refine nT_ ?_|refine aS ?_|fail)
   refine ⟨_,rfl,?_⟩
   skip
   refine ⟨_,rfl,?_⟩
   repeat' ((conv=>whnf);first|(exact ⟨rfl,by (repeat' (first|exact trivial|exact LeV.same _|exact LeB.same _|exact rfl|exact fun _ _ _=>trivial|refine And.intro ?_ ?_));done⟩)|fail)
end Go.ST
end
section
namespace Go.ST
open Go Go.DL Go.MM Go.Proofs
open Go.TY hiding Fd
variable {l:List Fd} {s:RS} {st st' o:List RE} {x0 x1 x2 x3 x4 x5 x6 x7 x8 x9 y0 y1 y2 y3 y4 y5 y6 y7 y8 y9 tick:Int} {e:RE} {is:Bool}
attribute [local irreducible] bN WCM YC
abbrev xN (w:Nat) (n:Int):Int:=if ((2^w - 1:Nat):Int)<n then ((2^w - 1:Nat):Int) else n
theorem zh (w:Nat) (n:Int):xN w n=min n ((2^w - 1:Nat):Int):=by
 unfold xN;split <;> omega
structure Wr (l:List Fd) (field:ByteArray) (h h':List Int) (n:Int):Prop where
 find:DCalls Tryz.prog 107 [fds l,.str field] (.tup [fdc l field,.bool (rY l field)])
 max:rY l field=true→DCalls Tryz.prog 141 [fdc l field] (I ((2^(fld l field).w - 1:Nat):Int))
 set:rY l field=true→DCalls Tryz.prog 140 [fdc l field,hd h,I (xN (fld l field).w n)] (hd h')
 no:rY l field=false→h'=h
theorem yr {l:List Fd} (hl:LOk l) (field:ByteArray) {h:List Int} (hh:HOk h) {n:Int} (h0:0≤n):Wr l field h (wrF l h field n) n:=by
 refine ⟨vS l hl field,fun hf=>t97 _ (vm hl hf),fun hf=>?_,fun hf=>?_⟩
 ·have hp:=Nat.two_pow_pos (fld l field).w
  have hS:=t98 _ (vm hl hf) h hh (min n ((2^(fld l field).w - 1:Nat):Int)).toNat (by omega)
  unfold wrF
  rw [if_pos hf,zh]
  rwa [Int.toNat_of_nonneg (by omega)] at hS
 ·unfold wrF
  rw [hf];rfl
theorem Az (hk:s.kind=1) (hOf:DCalls Tryz.prog 22 [esT st,.str s.var] (esT o)) (N:Int) (hN:(if (65535:Int)<IntKind.wrap .i64 (e.n+1) then 65535 else IntKind.wrap .i64 (e.n+1))=N) (hput:DCalls Tryz.prog 139 [esT st,rM ⟨e.var,e.key,N,tick⟩] (esT st')) (full:Bool) (hf:full=(!is&&decide (100≤o.length)))
  (hw:Wr l s.field [x0,x1,x2,x3,x4,x5,x6,x7,x8,x9] [y0,y1,y2,y3,y4,y5,y6,y7,y8,y9] N):
  bN Tryz.prog 84 Go.ST3.sZ (S0 l s st x0 x1 x2 x3 x4 x5 x6 x7 x8 x9 tick e is).mk' (fun ex s'=>ex= .normal∧((full=true∧bO (S1 l s x0 x1 x2 x3 x4 x5 x6 x7 x8 x9 tick is st x0 x1 x2 x3 x4 x5 x6 x7 x8 x9 ⟨e.var,e.key,N,tick⟩ false) s')∨(full=false∧bO (S1 l s x0 x1 x2 x3 x4 x5 x6 x7 x8 x9 tick is st' y0 y1 y2 y3 y4 y5 y6 y7 y8 y9 ⟨e.var,e.key,N,tick⟩ true) s'))):=by
 obtain ⟨kk,var,key,field,n,m⟩:=s
 dsimp only at hk hOf hw
 subst hk
 subst hN
 have hol:((o.map rM).length:Int)=o.length:=by rw [List.length_map]
 obtain ⟨hF,hM,hS,hno⟩:=hw
 refine Go.ST3.ur ?_
 by_cases c:full=true
 ·subst c
  cases is with
  |true=>cases hf
  |false=>
   have c:100≤o.length:=by
    by_cases c:100≤o.length
    ·exact c
    ·rw [decide_eq_false c] at hf;cases hf
   have hc:((o.map rM).length:Int)≥100:=by omega
   repeat' ((conv=>whnf);first|refine WC.toM (ry mixed Tryz.func52 Go.ST4.l52 rfl rfl (rs:=[.tmp 2]) rfl 3000 (nlZ rfl) ?_)|refine nT_ ?_|refine aS ?_|fail)
   repeat' ((conv=>whnf);first|refine ry mixed Tryz.func105 Go.ST4.sE rfl rfl (rs:=[.tmp 2]) rfl 3100 (nlZ rfl) ?_|refine nT_ ?_|refine aS ?_|fail)
   repeat' ((conv=>whnf);first|refine rD _ (hOf) ?_|refine qx hc ?_|refine aS ?_|fail)
   refine ⟨_,rfl,?_⟩
   skip
   refine ⟨_,rfl,?_⟩
   repeat' ((conv=>whnf);first|(exact ⟨rfl,Or.inl ⟨rfl,by (repeat' (first|exact trivial|exact LeV.same _|exact LeB.same _|exact rfl|exact fun _ _ _=>trivial|refine And.intro ?_ ?_));done⟩⟩)|fail)
 ·have c:full=false:=by simpa using c
  subst c
  have hgo:(is=true)∨(is=false∧ ¬((o.map rM).length:Int)≥100):=by
   cases is with
   |true=>exact Or.inl rfl
   |false=>
    refine Or.inr ⟨rfl,fun hc=>?_⟩
    rw [decide_eq_true (by omega)] at hf
    cases hf
  cases hfo:rY l field with
  |true=>
   have hM:=hM hfo
   have hS:=hS hfo
   rw [hfo] at hF
   rcases hgo with rfl|⟨rfl,hc⟩
   ·repeat' ((conv=>whnf);first|refine WC.toM (ry mixed Tryz.func52 Go.ST4.l52 rfl rfl (rs:=[.tmp 2]) rfl 3000 (nlZ rfl) ?_)|refine nT_ ?_|refine aS ?_|fail)
    repeat' ((conv=>whnf);first|refine ry mixed Tryz.func105 Go.ST4.sE rfl rfl (rs:=[.tmp 2]) rfl 3100 (nlZ rfl) ?_|refine nT_ ?_|refine aS ?_|fail)
    repeat' ((conv=>whnf);first|refine rD _ (hput) ?_|refine aS ?_|fail)
    refine ⟨_,rfl,?_⟩
    repeat' ((conv=>whnf);first|refine ry mixed Tryz.func106 Go.ST4.tV rfl rfl (rs:=[]) rfl 3200 (nlZ rfl) ?_|refine nT_ ?_|refine aS ?_|fail)
    repeat' ((conv=>whnf);first|refine rD _ (hF) ?_|refine rD _ (hM) ?_|refine rD _ (hS) ?_|refine nT_ ?_|refine aS ?_|fail)
    refine ⟨_,rfl,?_⟩
    skip
    refine ⟨_,rfl,?_⟩
    repeat' ((conv=>whnf);first|(exact ⟨rfl,Or.inr ⟨rfl,by (repeat' (first|exact trivial|exact LeV.same _|exact LeB.same _|exact rfl|exact fun _ _ _=>trivial|refine And.intro ?_ ?_));done⟩⟩)|fail)
   ·repeat' ((conv=>whnf);first|refine WC.toM (ry mixed Tryz.func52 Go.ST4.l52 rfl rfl (rs:=[.tmp 2]) rfl 3000 (nlZ rfl) ?_)|refine nT_ ?_|refine aS ?_|fail)
    repeat' ((conv=>whnf);first|refine ry mixed Tryz.func105 Go.ST4.sE rfl rfl (rs:=[.tmp 2]) rfl 3100 (nlZ rfl) ?_|refine nT_ ?_|refine aS ?_|fail)
    repeat' ((conv=>whnf);first|refine rD _ (hOf) ?_|refine qw hc ?_|refine rD _ (hput) ?_|refine nT_ ?_|refine aS ?_|fail)
    refine ⟨_,rfl,?_⟩
    repeat' ((conv=>whnf);first|refine ry mixed Tryz.func106 Go.ST4.tV rfl rfl (rs:=[]) rfl 3200 (nlZ rfl) ?_|refine nT_ ?_|refine aS ?_|fail)
    repeat' ((conv=>whnf);first|refine rD _ (hF) ?_|refine rD _ (hM) ?_|refine rD _ (hS) ?_|refine nT_ ?_|refine aS ?_|fail)
    refine ⟨_,rfl,?_⟩
    skip
    refine ⟨_,rfl,?_⟩
    repeat' ((conv=>whnf);first|(exact ⟨rfl,Or.inr ⟨rfl,by (repeat' (first|exact trivial|exact LeV.same _|exact LeB.same _|exact rfl|exact fun _ _ _=>trivial|refine And.intro ?_ ?_));done⟩⟩)|fail)
  |false=>
   have hno:=hno hfo
   cases hno
   rw [hfo] at hF
   rcases hgo with rfl|⟨rfl,hc⟩
   ·repeat' ((conv=>whnf);first|refine WC.toM (ry mixed Tryz.func52 Go.ST4.l52 rfl rfl (rs:=[.tmp 2]) rfl 3000 (nlZ rfl) ?_)|refine nT_ ?_|refine aS ?_|fail)
    repeat' ((conv=>whnf);first|refine ry mixed Tryz.func105 Go.ST4.sE rfl rfl (rs:=[.tmp 2]) rfl 3100 (nlZ rfl) ?_|refine nT_ ?_|refine aS ?_|fail)
    repeat' ((conv=>whnf);first|refine rD _ (hput) ?_|refine aS ?_|fail)
    refine ⟨_,rfl,?_⟩
    repeat' ((conv=>whnf);first|refine ry mixed Tryz.func106 Go.ST4.tV rfl rfl (rs:=[]) rfl 3200 (nlZ rfl) ?_|refine nT_ ?_|refine aS ?_|fail)
    repeat' ((conv=>whnf);first|refine rD _ (hF) ?_|refine aS ?_|fail)
    refine ⟨_,rfl,?_⟩
    skip
    refine ⟨_,rfl,?_⟩
    repeat' ((conv=>whnf);first|(exact ⟨rfl,Or.inr ⟨rfl,by (repeat' (first|exact trivial|exact LeV.same _|exact LeB.same _|exact rfl|exact fun _ _ _=>trivial|refine And.intro ?_ ?_));done⟩⟩)|fail)
   ·repeat' ((conv=>whnf);first|refine WC.toM (ry mixed Tryz.func52 Go.ST4.l52 rfl rfl (rs:=[.tmp 2]) rfl 3000 (nlZ rfl) ?_)|refine nT_ ?_|refine aS ?_|fail)
    repeat' ((conv=>whnf);first|refine ry mixed Tryz.func105 Go.ST4.sE rfl rfl (rs:=[.tmp 2]) rfl 3100 (nlZ rfl) ?_|refine nT_ ?_|refine aS ?_|fail)
    repeat' ((conv=>whnf);first|refine rD _ (hOf) ?_|refine qw hc ?_|refine rD _ (hput) ?_|refine nT_ ?_|refine aS ?_|fail)
    refine ⟨_,rfl,?_⟩
    repeat' ((conv=>whnf);first|refine ry mixed Tryz.func106 Go.ST4.tV rfl rfl (rs:=[]) rfl 3200 (nlZ rfl) ?_|refine nT_ ?_|refine aS ?_|fail)
    repeat' ((conv=>whnf);first|refine rD _ (hF) ?_|refine aS ?_|fail)
    refine ⟨_,rfl,?_⟩
    skip
    refine ⟨_,rfl,?_⟩
    repeat' ((conv=>whnf);first|(exact ⟨rfl,Or.inr ⟨rfl,by (repeat' (first|exact trivial|exact LeV.same _|exact LeB.same _|exact rfl|exact fun _ _ _=>trivial|refine And.intro ?_ ?_));done⟩⟩)|fail)
end Go.ST
end
section
namespace Go.ST
open Go Go.DL Go.MM Go.Proofs
open Go.TY hiding Fd
variable {l:List Fd} {s:RS} {st st' o:List RE} {x0 x1 x2 x3 x4 x5 x6 x7 x8 x9 tick:Int} {e:RE} {is:Bool}
attribute [local irreducible] bN WCM YC
abbrev W64 (n:Int):Int:=IntKind.wrap .i64 n
abbrev su (tick a m:Int):Int:=W64 ((if W64 (tick - a)>0 then W64 (tick - a) else 0).tdiv m)
abbrev zQ (n m tick en ea:Int):Int×Int:=if W64 (en+su tick ea m)≥n then (n,tick) else (W64 (en+su tick ea m),W64 (ea+W64 (su tick ea m * m)))
theorem AA (hk:s.kind=6) (hm:s.m≠0) (en ea n2 a2:Int) (h1:en=if is then e.n else s.n) (h1':ea=if is then e.at_ else tick) (h2:zQ s.n s.m tick en ea=(n2,a2)) (n3:Int) (h3:n3=if n2>0 then W64 (n2 - 1) else n2)
  (hOf:DCalls Tryz.prog 22 [esT st,.str s.var] (esT o)) (hput:DCalls Tryz.prog 139 [esT st,rM ⟨e.var,e.key,n3,a2⟩] (esT st')) (full:Bool) (hf:full=(!is&&decide (100≤o.length))):
  bN Tryz.prog 84 Go.ST3.sZ (S0 l s st x0 x1 x2 x3 x4 x5 x6 x7 x8 x9 tick e is).mk' (fun ex s'=>ex= .normal∧bO (S1 l s x0 x1 x2 x3 x4 x5 x6 x7 x8 x9 tick is (if full then st else st') x0 x1 x2 x3 x4 x5 x6 x7 x8 x9 ⟨e.var,e.key,n3,a2⟩ (!full&&decide (n2>0))) s'):=by
 obtain ⟨kk,var,key,field,n,m⟩:=s
 dsimp only at hk hOf hm h1 h1' h2
 subst hk
 have hol:((o.map rM).length:Int)=o.length:=by rw [List.length_map]
 refine Go.ST3.ur ?_
 cases is with
 |true=>
  obtain rfl:full=false:=by rw [hf];rfl
  obtain rfl:en=e.n:=h1
  obtain rfl:ea=e.at_:=h1'
  by_cases c1:W64 (e.n+su tick e.at_ m)≥n
  ·have h2:(n,tick)=(n2,a2):=by rw [← h2];exact (if_pos c1).symm
   obtain ⟨rfl,rfl⟩:=Prod.mk.injEq .. ▸h2
   by_cases c2:n>0
   ·rw [if_pos c2] at h3
    subst h3
    rw [decide_eq_true c2]
    repeat' ((conv=>whnf);first|refine WC.toM (ry mixed Tryz.func57 Go.ST4.l57 rfl rfl (rs:=[.tmp 2]) rfl 3000 (nlZ rfl) ?_)|refine nT_ ?_|refine aD1 ?_|refine aS ?_|fail)
    repeat' ((conv=>whnf);first|refine ry mixed Tryz.func105 Go.ST4.sE rfl rfl (rs:=[.tmp 2]) rfl 3100 (nlZ rfl) ?_|refine nT_ ?_|refine aS ?_|fail)
    repeat' ((conv=>whnf);first|refine rD _ (hput) ?_|refine aS ?_|fail)
    refine ⟨_,rfl,?_⟩
    skip
    refine ⟨_,rfl,?_⟩
    repeat' ((conv=>whnf);first|(exact ⟨rfl,by (repeat' (first|exact trivial|exact LeV.same _|exact LeB.same _|exact rfl|exact fun _ _ _=>trivial|refine And.intro ?_ ?_));done⟩)|fail)
   ·rw [if_neg c2] at h3
    subst h3
    rw [decide_eq_false c2]
    repeat' ((conv=>whnf);first|refine WC.toM (ry mixed Tryz.func57 Go.ST4.l57 rfl rfl (rs:=[.tmp 2]) rfl 3000 (nlZ rfl) ?_)|refine nT_ ?_|refine aD1 ?_|refine aD0 ?_|refine aS ?_|fail)
    repeat' ((conv=>whnf);first|refine ry mixed Tryz.func105 Go.ST4.sE rfl rfl (rs:=[.tmp 2]) rfl 3100 (nlZ rfl) ?_|refine nT_ ?_|refine aS ?_|fail)
    repeat' ((conv=>whnf);first|refine rD _ (hput) ?_|refine aS ?_|fail)
    refine ⟨_,rfl,?_⟩
    skip
    refine ⟨_,rfl,?_⟩
    repeat' ((conv=>whnf);first|(exact ⟨rfl,by (repeat' (first|exact trivial|exact LeV.same _|exact LeB.same _|exact rfl|exact fun _ _ _=>trivial|refine And.intro ?_ ?_));done⟩)|fail)
  ·have h2:(W64 (e.n+su tick e.at_ m),W64 (e.at_+W64 (su tick e.at_ m * m)))=(n2,a2):=by rw [← h2];exact (if_neg c1).symm
   obtain ⟨rfl,rfl⟩:=Prod.mk.injEq .. ▸h2
   by_cases c2:W64 (e.n+su tick e.at_ m)>0
   ·rw [if_pos c2] at h3
    subst h3
    rw [decide_eq_true c2]
    repeat' ((conv=>whnf);first|refine WC.toM (ry mixed Tryz.func57 Go.ST4.l57 rfl rfl (rs:=[.tmp 2]) rfl 3000 (nlZ rfl) ?_)|refine nT_ ?_|refine aD1 ?_|refine aD0 ?_|refine aS ?_|fail)
    repeat' ((conv=>whnf);first|refine ry mixed Tryz.func105 Go.ST4.sE rfl rfl (rs:=[.tmp 2]) rfl 3100 (nlZ rfl) ?_|refine nT_ ?_|refine aS ?_|fail)
    repeat' ((conv=>whnf);first|refine rD _ (hput) ?_|refine aS ?_|fail)
    refine ⟨_,rfl,?_⟩
    skip
    refine ⟨_,rfl,?_⟩
    repeat' ((conv=>whnf);first|(exact ⟨rfl,by (repeat' (first|exact trivial|exact LeV.same _|exact LeB.same _|exact rfl|exact fun _ _ _=>trivial|refine And.intro ?_ ?_));done⟩)|fail)
   ·rw [if_neg c2] at h3
    subst h3
    rw [decide_eq_false c2]
    repeat' ((conv=>whnf);first|refine WC.toM (ry mixed Tryz.func57 Go.ST4.l57 rfl rfl (rs:=[.tmp 2]) rfl 3000 (nlZ rfl) ?_)|refine nT_ ?_|refine aD0 ?_|refine aS ?_|fail)
    repeat' ((conv=>whnf);first|refine ry mixed Tryz.func105 Go.ST4.sE rfl rfl (rs:=[.tmp 2]) rfl 3100 (nlZ rfl) ?_|refine nT_ ?_|refine aS ?_|fail)
    repeat' ((conv=>whnf);first|refine rD _ (hput) ?_|refine aS ?_|fail)
    refine ⟨_,rfl,?_⟩
    skip
    refine ⟨_,rfl,?_⟩
    repeat' ((conv=>whnf);first|(exact ⟨rfl,by (repeat' (first|exact trivial|exact LeV.same _|exact LeB.same _|exact rfl|exact fun _ _ _=>trivial|refine And.intro ?_ ?_));done⟩)|fail)
 |false=>
  obtain rfl:n=en:=h1.symm
  obtain rfl:tick=ea:=h1'.symm
  by_cases c:100≤o.length
  ·have c3:((o.map rM).length:Int)≥100:=by omega
   obtain rfl:full=true:=by rw [hf,decide_eq_true c];rfl
   by_cases c1:W64 (n+su tick tick m)≥n
   ·have h2:(n,tick)=(n2,a2):=by rw [← h2];exact (if_pos c1).symm
    obtain ⟨rfl,rfl⟩:=Prod.mk.injEq .. ▸h2
    by_cases c2:n>0
    ·rw [if_pos c2] at h3
     subst h3
     rw [decide_eq_true c2]
     repeat' ((conv=>whnf);first|refine WC.toM (ry mixed Tryz.func57 Go.ST4.l57 rfl rfl (rs:=[.tmp 2]) rfl 3000 (nlZ rfl) ?_)|refine nT_ ?_|refine aD1 ?_|refine aS ?_|fail)
     repeat' ((conv=>whnf);first|refine ry mixed Tryz.func105 Go.ST4.sE rfl rfl (rs:=[.tmp 2]) rfl 3100 (nlZ rfl) ?_|refine nT_ ?_|refine aS ?_|fail)
     repeat' ((conv=>whnf);first|refine rD _ (hOf) ?_|refine qx c3 ?_|refine aS ?_|fail)
     refine ⟨_,rfl,?_⟩
     skip
     refine ⟨_,rfl,?_⟩
     repeat' ((conv=>whnf);first|(exact ⟨rfl,by (repeat' (first|exact trivial|exact LeV.same _|exact LeB.same _|exact rfl|exact fun _ _ _=>trivial|refine And.intro ?_ ?_));done⟩)|fail)
    ·rw [if_neg c2] at h3
     subst h3
     rw [decide_eq_false c2]
     repeat' ((conv=>whnf);first|refine WC.toM (ry mixed Tryz.func57 Go.ST4.l57 rfl rfl (rs:=[.tmp 2]) rfl 3000 (nlZ rfl) ?_)|refine nT_ ?_|refine aD1 ?_|refine aD0 ?_|refine aS ?_|fail)
     repeat' ((conv=>whnf);first|refine ry mixed Tryz.func105 Go.ST4.sE rfl rfl (rs:=[.tmp 2]) rfl 3100 (nlZ rfl) ?_|refine nT_ ?_|refine aS ?_|fail)
     repeat' ((conv=>whnf);first|refine rD _ (hOf) ?_|refine qx c3 ?_|refine aS ?_|fail)
     refine ⟨_,rfl,?_⟩
     skip
     refine ⟨_,rfl,?_⟩
     repeat' ((conv=>whnf);first|(exact ⟨rfl,by (repeat' (first|exact trivial|exact LeV.same _|exact LeB.same _|exact rfl|exact fun _ _ _=>trivial|refine And.intro ?_ ?_));done⟩)|fail)
   ·have h2:(W64 (n+su tick tick m),W64 (tick+W64 (su tick tick m * m)))=(n2,a2):=by rw [← h2];exact (if_neg c1).symm
    obtain ⟨rfl,rfl⟩:=Prod.mk.injEq .. ▸h2
    by_cases c2:W64 (n+su tick tick m)>0
    ·rw [if_pos c2] at h3
     subst h3
     rw [decide_eq_true c2]
     repeat' ((conv=>whnf);first|refine WC.toM (ry mixed Tryz.func57 Go.ST4.l57 rfl rfl (rs:=[.tmp 2]) rfl 3000 (nlZ rfl) ?_)|refine nT_ ?_|refine aD1 ?_|refine aD0 ?_|refine aS ?_|fail)
     repeat' ((conv=>whnf);first|refine ry mixed Tryz.func105 Go.ST4.sE rfl rfl (rs:=[.tmp 2]) rfl 3100 (nlZ rfl) ?_|refine nT_ ?_|refine aS ?_|fail)
     repeat' ((conv=>whnf);first|refine rD _ (hOf) ?_|refine qx c3 ?_|refine aS ?_|fail)
     refine ⟨_,rfl,?_⟩
     skip
     refine ⟨_,rfl,?_⟩
     repeat' ((conv=>whnf);first|(exact ⟨rfl,by (repeat' (first|exact trivial|exact LeV.same _|exact LeB.same _|exact rfl|exact fun _ _ _=>trivial|refine And.intro ?_ ?_));done⟩)|fail)
    ·rw [if_neg c2] at h3
     subst h3
     rw [decide_eq_false c2]
     repeat' ((conv=>whnf);first|refine WC.toM (ry mixed Tryz.func57 Go.ST4.l57 rfl rfl (rs:=[.tmp 2]) rfl 3000 (nlZ rfl) ?_)|refine nT_ ?_|refine aD0 ?_|refine aS ?_|fail)
     repeat' ((conv=>whnf);first|refine ry mixed Tryz.func105 Go.ST4.sE rfl rfl (rs:=[.tmp 2]) rfl 3100 (nlZ rfl) ?_|refine nT_ ?_|refine aS ?_|fail)
     repeat' ((conv=>whnf);first|refine rD _ (hOf) ?_|refine qx c3 ?_|refine aS ?_|fail)
     refine ⟨_,rfl,?_⟩
     skip
     refine ⟨_,rfl,?_⟩
     repeat' ((conv=>whnf);first|(exact ⟨rfl,by (repeat' (first|exact trivial|exact LeV.same _|exact LeB.same _|exact rfl|exact fun _ _ _=>trivial|refine And.intro ?_ ?_));done⟩)|fail)
  ·have c3: ¬((o.map rM).length:Int)≥100:=by omega
   obtain rfl:full=false:=by rw [hf,decide_eq_false c];rfl
   by_cases c1:W64 (n+su tick tick m)≥n
   ·have h2:(n,tick)=(n2,a2):=by rw [← h2];exact (if_pos c1).symm
    obtain ⟨rfl,rfl⟩:=Prod.mk.injEq .. ▸h2
    by_cases c2:n>0
    ·rw [if_pos c2] at h3
     subst h3
     rw [decide_eq_true c2]
     repeat' ((conv=>whnf);first|refine WC.toM (ry mixed Tryz.func57 Go.ST4.l57 rfl rfl (rs:=[.tmp 2]) rfl 3000 (nlZ rfl) ?_)|refine nT_ ?_|refine aD1 ?_|refine aS ?_|fail)
     repeat' ((conv=>whnf);first|refine ry mixed Tryz.func105 Go.ST4.sE rfl rfl (rs:=[.tmp 2]) rfl 3100 (nlZ rfl) ?_|refine nT_ ?_|refine aS ?_|fail)
     repeat' ((conv=>whnf);first|refine rD _ (hOf) ?_|refine qw c3 ?_|refine rD _ (hput) ?_|refine nT_ ?_|refine aS ?_|fail)
     refine ⟨_,rfl,?_⟩
     skip
     refine ⟨_,rfl,?_⟩
     repeat' ((conv=>whnf);first|(exact ⟨rfl,by (repeat' (first|exact trivial|exact LeV.same _|exact LeB.same _|exact rfl|exact fun _ _ _=>trivial|refine And.intro ?_ ?_));done⟩)|fail)
    ·rw [if_neg c2] at h3
     subst h3
     rw [decide_eq_false c2]
     repeat' ((conv=>whnf);first|refine WC.toM (ry mixed Tryz.func57 Go.ST4.l57 rfl rfl (rs:=[.tmp 2]) rfl 3000 (nlZ rfl) ?_)|refine nT_ ?_|refine aD1 ?_|refine aD0 ?_|refine aS ?_|fail)
     repeat' ((conv=>whnf);first|refine ry mixed Tryz.func105 Go.ST4.sE rfl rfl (rs:=[.tmp 2]) rfl 3100 (nlZ rfl) ?_|refine nT_ ?_|refine aS ?_|fail)
     repeat' ((conv=>whnf);first|refine rD _ (hOf) ?_|refine qw c3 ?_|refine rD _ (hput) ?_|refine nT_ ?_|refine aS ?_|fail)
     refine ⟨_,rfl,?_⟩
     skip
     refine ⟨_,rfl,?_⟩
     repeat' ((conv=>whnf);first|(exact ⟨rfl,by (repeat' (first|exact trivial|exact LeV.same _|exact LeB.same _|exact rfl|exact fun _ _ _=>trivial|refine And.intro ?_ ?_));done⟩)|fail)
   ·have h2:(W64 (n+su tick tick m),W64 (tick+W64 (su tick tick m * m)))=(n2,a2):=by rw [← h2];exact (if_neg c1).symm
    obtain ⟨rfl,rfl⟩:=Prod.mk.injEq .. ▸h2
    by_cases c2:W64 (n+su tick tick m)>0
    ·rw [if_pos c2] at h3
     subst h3
     rw [decide_eq_true c2]
     repeat' ((conv=>whnf);first|refine WC.toM (ry mixed Tryz.func57 Go.ST4.l57 rfl rfl (rs:=[.tmp 2]) rfl 3000 (nlZ rfl) ?_)|refine nT_ ?_|refine aD1 ?_|refine aD0 ?_|refine aS ?_|fail)
     repeat' ((conv=>whnf);first|refine ry mixed Tryz.func105 Go.ST4.sE rfl rfl (rs:=[.tmp 2]) rfl 3100 (nlZ rfl) ?_|refine nT_ ?_|refine aS ?_|fail)
     repeat' ((conv=>whnf);first|refine rD _ (hOf) ?_|refine qw c3 ?_|refine rD _ (hput) ?_|refine nT_ ?_|refine aS ?_|fail)
     refine ⟨_,rfl,?_⟩
     skip
     refine ⟨_,rfl,?_⟩
     repeat' ((conv=>whnf);first|(exact ⟨rfl,by (repeat' (first|exact trivial|exact LeV.same _|exact LeB.same _|exact rfl|exact fun _ _ _=>trivial|refine And.intro ?_ ?_));done⟩)|fail)
    ·rw [if_neg c2] at h3
     subst h3
     rw [decide_eq_false c2]
     repeat' ((conv=>whnf);first|refine WC.toM (ry mixed Tryz.func57 Go.ST4.l57 rfl rfl (rs:=[.tmp 2]) rfl 3000 (nlZ rfl) ?_)|refine nT_ ?_|refine aD0 ?_|refine aS ?_|fail)
     repeat' ((conv=>whnf);first|refine ry mixed Tryz.func105 Go.ST4.sE rfl rfl (rs:=[.tmp 2]) rfl 3100 (nlZ rfl) ?_|refine nT_ ?_|refine aS ?_|fail)
     repeat' ((conv=>whnf);first|refine rD _ (hOf) ?_|refine qw c3 ?_|refine rD _ (hput) ?_|refine nT_ ?_|refine aS ?_|fail)
     refine ⟨_,rfl,?_⟩
     skip
     refine ⟨_,rfl,?_⟩
     repeat' ((conv=>whnf);first|(exact ⟨rfl,by (repeat' (first|exact trivial|exact LeV.same _|exact LeB.same _|exact rfl|exact fun _ _ _=>trivial|refine And.intro ?_ ?_));done⟩)|fail)
end Go.ST
end
section
namespace Go.ST5
open Go Go.DL Go.Proofs
noncomputable def c56:bc:=(.seq (.region [oo 1 (.box 1 (tm 0)),oo 2 (.mov kF)] []) (.seq (.region [ld 10 1,oo 11 (.nilck (tm 10)),fa 12 0 11,ld 13 12,ld 14 1,oo 15 (.nilck (tm 14)),fa 16 1 15,fa 17 3 16,ld 18 17,oo 19 (.call 107 [(tm 13),(tm 18)]),mv 9 19,oo 20 (.ext (tm 9) 0),oo 21 (.ext (tm 9) 1),⟨some 3,.alloc [S0,Z0,Z0],none,[]⟩,o0 (.store 3 (tm 3) (tm 20)),mv 4 21] []) (.seq (.region [lA 22 3 3,ld 23 1,oo 24 (.nilck (tm 23)),fa 25 8 24,lA 26 10 25,oo 27 (.call 108 [(tm 22),(tm 26)]),oo 5 (.alloc [Z0]),o0 (.store 1 (tm 5) (tm 27))] []) (.seq (.region [ld 28 1,oo 29 (.nilck (tm 28)),fa 30 7 29,ld 31 30,oo 32 (.mkfn 110 [(tm 1),(tm 5)]),oo 33 (.inl 109 [(tm 31),(tm 32)]),mv 6 33] []) (.seq (.seq (.region [mv 34 6,oo 35 (.bin .lss (tm 34) (Kc 0))] []) (.cond (tm 35) (.seq (.region [oo 2 (.mov kF)] []) .ret) .skip)) (.seq (.seq (.region [ld 36 1,oo 37 (.nilck (tm 36)),fa 38 1 37,fa 39 2 38,ld 40 39,ln 41 40,oo 42 (.mov (Kc 0))] []) (.block 0 (.loop (.seq (.region [oo 43 (.bin .lss (tm 42) (tm 41))] []) (.seq (.cond (tm 43) .skip (.exit 0)) (.seq (.block 1 (.seq (.region [mv 44 42,ix 45 1 40 42,ld 46 45,mv 7 44,mv 8 46] []) (.region [ld 47 1,mv 48 8,ld 49 1,oo 50 (.nilck (tm 49)),fa 51 7 50,ld 52 51,mv 53 6,ix 54 4 52 53,fa 55 1 54,ld 56 55,mv 57 7,ix 58 1 56 57,ld 59 58,oo 60 (.inl 106 [(tm 47),(tm 48),(tm 59)])] []))) (.region [oo 61 (.bin .add (tm 42) (Kc 1)),mv 42 61] []))))))) (.seq (.region [oo 2 (.mov kT)] []) .ret)))))))
theorem l56:(Tryz.f56.body.bind (bp Tryz.prog 62 [106,109]))=some c56:=by kernel_rfl
end Go.ST5
end
section
end
section
namespace Go.ST
open Go Go.DL Go.MM
open Go.TY hiding Fd
theorem Bj {l:List Fd} (h:LOk l) {k:ByteArray} (hf:rY l k=true):FOk (MM.fld l k):=by
 unfold rY at hf
 obtain ⟨f,hf⟩:=Option.isSome_iff_exists.1 hf
 rw [yB hf]
 exact h.find hf
theorem vG {l:List Fd} (hl:LOk l) {h:List Int} (hh:HOk h) {name:ByteArray} {n:Int} (_:0≤n):HOk (wrF l h name n):=by
 unfold wrF
 cases hf:rY l name with
 |false=>simpa using hh
 |true=>
  rw [if_pos rfl]
  have:=Nat.two_pow_pos (fld l name).w
  exact hh.set (Bj hl hf) (by omega)
theorem vT {l:List Fd} (hl:LOk l): ∀{ks:List ByteArray} {vs:List Int} {h:List Int},HOk h→(∀ x∈vs,0≤x)→HOk (tq l ks vs h)
 |[],_,h,hh,_=>hh
 |_::_,[],h,hh,_=>hh
 |k::ks,v::vs,h,hh,hv=>show HOk (tq l ks vs (wrF l h k v)) from vT hl (vG hl hh (hv v (by simp))) fun x hx=>hv x (by simp [hx])
end Go.ST
end
section
namespace Go.ST
open Go Go.DL Go.MM Go.Proofs
open Go.TY hiding Fd
theorem DCalls.yN {P:Program} {f:FuncId} {ts:List T} {r:T} (h:DCalls P f ts r) (hf:r.flat=true):qj P f ts r:=by
 refine ⟨h.1,fun w vs hG hl hr=>(h.2 (dM w) w vs (fun _ _ hs=>hs) hG hl hr).mono ?_⟩
 rintro e w' ⟨v,rfl,hb,hrep⟩
 exact ⟨v,rfl,hb,hrep.of_flat hf⟩
theorem xj (xs:List RE) (f:FuncId) (c1 c2:T) (p:RE→Bool) (hl:xs.length<2^60) (hc: ∀(i:Nat) (h:i<xs.length),DCalls Tryz.prog f [.agg (rL xs[i]),c1,c2] (.bool (p xs[i]))):
  DCalls Tryz.prog 109 [esT xs,.clos f [c1,c2]] (I (sJ p xs)):=by
 refine qQ (rs:=[.tmp 4]) mixed Tryz.func109 Bh rfl rfl rfl (r:=[.int _ _]) (nlZ rfl) ?_
 skip
 refine rm (α:=Nat) (fun i=>{sl:=[(0,.t (esT xs)),(1,.t (.clos f [c1,c2])),(6,.t (esT xs)),(7,.t (I xs.length)),(8,.t (I i))],bx:=[]})
  (fun i=>i≤xs.length∧ ∀j (h:j<xs.length),j<i→p xs[j]=false) (fun i=>xs.length - i) 0 (by simp) ?_ ?_
 ·repeat' (first|(exact leI (by simp))|exact trivial|exact LeV.same _|exact rfl|exact fun _ _ _=>trivial|refine And.intro ?_ ?_)
 rintro i ⟨hi,hp⟩
 rcases Nat.lt_or_ge i xs.length with h|h
 ·have h0:=hc i h
  cases hb:p xs[i] with
  |true=>
   rw [hb] at h0
   rw [uK h hb hp]
   repeat' ((conv=>whnf);first|exact trivial|(refine nv_ (.agg (rL xs[i])) (by first|exact rU h|fail) ?_)|refine rD _ (h0) ?_|refine nT_ ?_|refine aD1 ?_|refine rix ?_|(refine And.intro (by first|exact rN _|fail) ?_)|refine aS ?_|fail)
  |false=>
   rw [hb] at h0
   repeat' ((conv=>whnf);first|(refine nv_ (.agg (rL xs[i])) (by first|exact rU h|fail) ?_)|refine rD _ (h0) ?_|refine nT_ ?_|refine aD1 ?_|(refine And.intro (by first|exact rN _|fail) ?_)|refine aS ?_|fail)
   refine ⟨i+1,⟨h,fun j hj hlt=>?_⟩,by omega,?_⟩
   ·rcases Nat.lt_or_ge j i with h4|h4
    ·exact hp j hj h4
    ·obtain rfl:j=i:=by omega
     exact hb
   ·repeat' (first|exact trivial|exact LeV.same _|exact rfl|exact fun _ _ _=>trivial|exact lI|refine And.intro ?_ ?_)
 ·have:i=xs.length:=by omega
  subst this
  rw [uL fun j hj=>hp j hj hj]
  repeat' ((conv=>whnf);first|exact trivial|refine aD0 ?_|refine rix ?_|refine aS ?_|fail)
structure H10 where
 x0:Int
 x1:Int
 x2:Int
 x3:Int
 x4:Int
 x5:Int
 x6:Int
 x7:Int
 x8:Int
 x9:Int
abbrev H10.ls (q:H10):List Int:=[q.x0,q.x1,q.x2,q.x3,q.x4,q.x5,q.x6,q.x7,q.x8,q.x9]
theorem wA (l:List Fd) (k:ByteArray) (v:Int): ∀(a:List ByteArray) (b:List Int) (h:List Int),a.length=b.length→tq l (a++[k]) (b++[v]) h=wrF l (tq l a b h) k v
 |[],[],h,_=>rfl
 |x::a,y::b,h,e=>by
  show tq l (a++[k]) (b++[v]) (wrF l h x y)=_
  rw [wA l k v a b _ (by simpa using e)]
  rfl
 |[],_::_,_,e=>by simp at e
 |_::_,[],_,e=>by simp at e
variable {l:List Fd} {s:RS} {st st' o:List RE} {x0 x1 x2 x3 x4 x5 x6 x7 x8 x9 y0 y1 y2 y3 y4 y5 y6 y7 y8 y9 tick:Int} {e:RE} {is:Bool}
theorem AY (x:RE) (g:Int):DCalls Tryz.prog 110 [.agg (rL x),.cptr [.cptr (dL l s st x0 x1 x2 x3 x4 x5 x6 x7 x8 x9 tick e is) 0] 0,.cptr [I g] 0] (.bool (decide (x.var=s.var)&&decide (x.n=g))):=by
 refine qQ (rs:=[.tmp 4]) mixed Tryz.func110 Go.ST4.CS rfl rfl rfl (r:=[.bool _]) (nlZ rfl) ?_
 have h:=eqS x.var s.var
 by_cases c:x.var=s.var
 ·rw [decide_eq_true c] at h ⊢
  by_cases c2:x.n=g
  ·rw [decide_eq_true c2]
   repeat' ((conv=>whnf);first|exact trivial|refine nb_ _ h ?_|refine qz c2 ?_|refine nT_ ?_|refine rb1 ?_|(refine And.intro (by first|exact rN _|fail) ?_)|refine aS ?_|fail)
  ·rw [decide_eq_false c2]
   repeat' ((conv=>whnf);first|exact trivial|refine nb_ _ h ?_|refine qy c2 ?_|refine nT_ ?_|refine rb0 ?_|(refine And.intro (by first|exact rN _|fail) ?_)|refine aS ?_|fail)
 ·rw [decide_eq_false c] at h ⊢
  repeat' ((conv=>whnf);first|exact trivial|refine nb_ _ h ?_|refine nT_ ?_|refine rb0 ?_|(refine And.intro (by first|exact rN _|fail) ?_)|refine aS ?_|fail)
attribute [local irreducible] bN WCM YC
theorem Be (hk:s.kind=5) (hl:LOk l) (hlen:st.length<2^40) (hkl:s.key.length<2^40) (hh:HOk [x0,x1,x2,x3,x4,x5,x6,x7,x8,x9]) (hfo:rY l s.field=true)
  (hvs: ∀x∈st,x.var=s.var→x.key.length=s.key.length∧ ∀v∈x.key,0≤v) (fnd:Option RE) (hfnd:fnd=st.find? fun x=>decide (x.var=s.var)&&decide (x.n=(sN (fld l s.field) [x0,x1,x2,x3,x4,x5,x6,x7,x8,x9]:Int))):
  bN Tryz.prog 84 Go.ST3.sZ (S0 l s st x0 x1 x2 x3 x4 x5 x6 x7 x8 x9 tick e is).mk' (fun ex s'=>ex= .normal∧((fnd=none∧bO (S1 l s x0 x1 x2 x3 x4 x5 x6 x7 x8 x9 tick is st x0 x1 x2 x3 x4 x5 x6 x7 x8 x9 e false) s')∨
   (∃ (x:RE) (q:H10),fnd=some x∧q.ls=tq l s.key x.key [x0,x1,x2,x3,x4,x5,x6,x7,x8,x9]∧bO (S1 l s x0 x1 x2 x3 x4 x5 x6 x7 x8 x9 tick is st q.x0 q.x1 q.x2 q.x3 q.x4 q.x5 q.x6 q.x7 q.x8 q.x9 e true) s'))):=by
 have hidx:=xj st 110 (.cptr [.cptr (dL l s st x0 x1 x2 x3 x4 x5 x6 x7 x8 x9 tick e is) 0] 0) (.cptr [I (sN (fld l s.field) [x0,x1,x2,x3,x4,x5,x6,x7,x8,x9])] 0) (fun x=>decide (x.var=s.var)&&decide (x.n=(sN (fld l s.field) [x0,x1,x2,x3,x4,x5,x6,x7,x8,x9]:Int))) (by omega) (fun i h=>AY st[i] _)
 have hF:=vS l hl s.field
 rw [hfo] at hF
 have hG:=t78 _ (vm hl hfo) _ hh
 obtain ⟨kk,var,key,field,n,m⟩:=s
 dsimp only at hk hF hG hidx hvs hfnd hkl hfo
 subst hk
 rcases uB (fun x=>decide (x.var=var)&&decide (x.n=(sN (fld l field) [x0,x1,x2,x3,x4,x5,x6,x7,x8,x9]:Int))) st with ⟨hx,hno⟩|⟨k,hk,hx,hfd⟩
 ·rw [hno] at hfnd
  have hN:=DCalls.yN hidx rfl
  rw [hx] at hN
  refine Go.ST3.ur ?_
  repeat' ((conv=>whnf);first|refine WC.toM (ry mixed Tryz.func56 Go.ST5.l56 rfl rfl (rs:=[.tmp 2]) rfl 3000 (nlZ rfl) ?_)|refine nT_ ?_|refine aS ?_|fail)
  repeat' ((conv=>whnf);first|refine rD _ (hF) ?_|refine rD _ (hG) ?_|refine rz rfl hN ?_|refine nT_ ?_|refine aD1 ?_|refine aS ?_|fail)
  refine ⟨_,rfl,?_⟩
  repeat' ((conv=>whnf);first|(exact ⟨rfl,Or.inl ⟨hfnd,by (repeat' (first|exact trivial|exact LeV.same _|exact LeB.same _|exact rfl|exact fun _ _ _=>trivial|refine And.intro ?_ ?_));done⟩⟩)|fail)
 ·rw [hfd] at hfnd
  have hN:=DCalls.yN hidx rfl
  rw [hx] at hN
  have hxm:st[k]∈st:=List.getElem_mem hk
  have hxv:st[k].var=var:=by
   have:=List.find?_some hfd
   rw [Bool.and_eq_true] at this
   exact of_decide_eq_true this.1
  obtain ⟨hlk,hpos⟩:=hvs st[k] hxm hxv
  have hgk:=rU hk
  have hget:=ggZ hk
  have hn:((st.map rM).length:Int)=st.length:=by rw [List.length_map]
  have hm:((key.map T.str).length:Int)=key.length:=by rw [List.length_map]
  have hge0: ¬(k:Int)<0:=by omega
  have hgx:((rL st[k])[1]?.getD .nil)= .slice 1 (st[k].key.map I):=rfl
  have hgk1:(T.agg (rL st[k])).cells[1]?.getD .nil= .slice 1 (st[k].key.map I):=rfl
  have hk2:(k:Int)<((st.map rM).length:Int):=by omega
  generalize hxx:st[k]=x at *
  obtain ⟨xv,xk,xn,xa⟩:=x
  dsimp only at hlk hpos
  have hxl:((xk.map I).length:Int)=key.length:=by rw [List.length_map];omega
  refine Go.ST3.ur ?_
  repeat' ((conv=>whnf);first|refine WC.toM (ry mixed Tryz.func56 Go.ST5.l56 rfl rfl (rs:=[.tmp 2]) rfl 3000 (nlZ rfl) ?_)|refine nT_ ?_|refine aS ?_|fail)
  repeat' ((conv=>whnf);first|refine rD _ (hF) ?_|refine rD _ (hG) ?_|refine rz rfl hN ?_|refine nT_ ?_|refine aD0 ?_|refine aS ?_|fail)
  refine qY 0 (α:=Nat×H10) (β:=H10) (fun q=>{sl:=[(1,.ptr 3001 0),(6,.t (I k)),(40,.t (.slice 1 (key.map .str))),(41,.t (I key.length)),(42,.t (I q.1))],bx:=[(8,.d 10 [I x0,I x1,I x2,I x3,I x4,I x5,I x6,I x7,I x8,I x9]),(10,.d 10 z10),(3001,.v [.ptr 37 0]),(37,.d 24 (dL l ⟨5,var,key,field,n,m⟩ st q.2.x0 q.2.x1 q.2.x2 q.2.x3 q.2.x4 q.2.x5 q.2.x6 q.2.x7 q.2.x8 q.2.x9 tick e is))],gh:=[(0,[(8,.ptr 8 0),(10,.ptr 10 0),(16,.ptr 37 0)])],off:=3000})
   (fun q=>q.1≤key.length∧q.2.ls=tq l (key.take q.1) (xk.take q.1) [x0,x1,x2,x3,x4,x5,x6,x7,x8,x9]) (fun q=>key.length - q.1)
   (fun q=>{sl:=[],bx:=[(8,.d 10 [I x0,I x1,I x2,I x3,I x4,I x5,I x6,I x7,I x8,I x9]),(10,.d 10 z10),(37,.d 24 (dL l ⟨5,var,key,field,n,m⟩ st q.x0 q.x1 q.x2 q.x3 q.x4 q.x5 q.x6 q.x7 q.x8 q.x9 tick e is))],gh:=[(0,[(8,.ptr 8 0),(10,.ptr 10 0),(16,.ptr 37 0)])],off:=3000})
   (fun q=>q.ls=tq l key xk [x0,x1,x2,x3,x4,x5,x6,x7,x8,x9]) (0,⟨x0,x1,x2,x3,x4,x5,x6,x7,x8,x9⟩) ⟨Nat.zero_le _,rfl⟩ ?_ ?_ ?_
  ·repeat' (first|(exact leI hm.symm)|exact trivial|exact LeV.same _|exact LeB.same _|exact rfl|exact fun _ _ _=>trivial|refine And.intro ?_ ?_)
  ·rintro ⟨i,q⟩ ⟨hi,hq⟩
   dsimp only at hi hq
   rcases Nat.lt_or_ge i key.length with h|h
   ·have hlt:(i:Int)<(key.length:Int):=by omega
    have hnx:((i+1:Nat):Int)=IntKind.wrap .i64 ((i:Int)+1):=by rw [mQ] <;> omega
    have hi2:i<xk.length:=by omega
    have hHq:HOk q.ls:=by rw [hq];exact vT hl hh fun v hv=>hpos v (List.mem_of_mem_take hv)
    have hp0:0≤xk[i]:=hpos _ (List.getElem_mem hi2)
    have hW:=yr hl key[i] hHq hp0
    have hsn:tq l (key.take (i+1)) (xk.take (i+1)) [x0,x1,x2,x3,x4,x5,x6,x7,x8,x9]=wrF l q.ls key[i] xk[i]:=by
     rw [List.take_succ_eq_append_getElem h,List.take_succ_eq_append_getElem hi2,wA _ _ _ _ _ _ (by rw [List.length_take,List.length_take];omega),hq]
    have hst:(key.map T.str)[((i:Int)).toNat]?.getD .nil= .str key[i]:=by simp [h]
    have hsv:(xk.map I)[((i:Int)).toNat]?.getD .nil=I xk[i]:=by simp [hi2]
    obtain ⟨y0,y1,y2,y3,y4,y5,y6,y7,y8,y9,hy⟩:=ten (vG hl hHq (name:=key[i]) hp0)
    rw [hy] at hW hsn
    obtain ⟨hF2,hM2,hS2,hno2⟩:=hW
    have hir:0≤(i:Int)∧(i:Int)<((xk.map I).length:Int):=by omega
    have hkr:0≤(k:Int)∧(k:Int)<((st.map rM).length:Int):=by omega
    generalize key[i]=nm at *
    generalize xk[i]=vl at *
    obtain ⟨z0,z1,z2,z3,z4,z5,z6,z7,z8,z9⟩:=q
    cases hfo2:rY l nm with
    |true=>
     rw [hfo2] at hF2
     have hM2:=hM2 hfo2
     have hS2:=hS2 hfo2
     repeat' ((conv=>whnf);first|refine qx hlt ?_|(refine nv_ (.str nm) (by first|exact hst|fail) ?_)|(refine nv_ (.slice 1 (xk.map I)) (by first|(simp [hget,rM,rL,T.cells];done)|fail) ?_)|(refine nv_ (I vl) (by first|exact hsv|fail) ?_)|refine ry mixed Tryz.func106 Go.ST4.tV rfl rfl (rs:=[]) rfl 3200 (nlZ rfl) ?_|refine nT_ ?_|(refine And.intro (by first|exact hir|exact hkr|((simp [hget,rM,rL,T.cells]);done)|fail) ?_)|refine aS ?_|fail)
     repeat' ((conv=>whnf);first|refine rD _ (hF2) ?_|refine rD _ (hM2) ?_|refine rD _ (hS2) ?_|refine nT_ ?_|refine aS ?_|fail)
     refine ⟨_,rfl,?_⟩
     repeat' ((conv=>whnf);first|(exact ⟨(i+1,⟨y0,y1,y2,y3,y4,y5,y6,y7,y8,y9⟩),⟨h,hsn.symm⟩,(by dsimp only;omega),by (repeat' (first|(exact leI hnx)|exact trivial|exact LeV.same _|exact LeB.same _|exact rfl|exact fun _ _ _=>trivial|refine And.intro ?_ ?_));done⟩)|fail)
    |false=>
     rw [hfo2] at hF2
     have hno2:=hno2 hfo2
     cases hno2
     repeat' ((conv=>whnf);first|refine qx hlt ?_|(refine nv_ (.str nm) (by first|exact hst|fail) ?_)|(refine nv_ (.slice 1 (xk.map I)) (by first|(simp [hget,rM,rL,T.cells];done)|fail) ?_)|(refine nv_ (I vl) (by first|exact hsv|fail) ?_)|refine ry mixed Tryz.func106 Go.ST4.tV rfl rfl (rs:=[]) rfl 3200 (nlZ rfl) ?_|refine nT_ ?_|(refine And.intro (by first|exact hir|exact hkr|((simp [hget,rM,rL,T.cells]);done)|fail) ?_)|refine aS ?_|fail)
     repeat' ((conv=>whnf);first|refine rD _ (hF2) ?_|refine aS ?_|fail)
     refine ⟨_,rfl,?_⟩
     repeat' ((conv=>whnf);first|(exact ⟨(i+1,⟨_,_,_,_,_,_,_,_,_,_⟩),⟨h,hsn.symm⟩,(by dsimp only;omega),by (repeat' (first|(exact leI hnx)|exact trivial|exact LeV.same _|exact LeB.same _|exact rfl|exact fun _ _ _=>trivial|refine And.intro ?_ ?_));done⟩)|fail)
   ·have hlt: ¬(i:Int)<(key.length:Int):=by omega
    have hq2:q.ls=tq l key xk [x0,x1,x2,x3,x4,x5,x6,x7,x8,x9]:=by rw [hq,List.take_of_length_le h,List.take_of_length_le (by omega)]
    repeat' ((conv=>whnf);first|refine qw hlt ?_|(exact ⟨q,hq2,by (repeat' (first|exact trivial|exact LeV.same _|exact LeB.same _|exact rfl|exact fun _ _ _=>trivial|refine And.intro ?_ ?_));done⟩)|refine aS ?_|fail)
  ·rintro q hq
   skip
   refine ⟨_,rfl,?_⟩
   repeat' ((conv=>whnf);first|(exact ⟨rfl,Or.inr ⟨_,q,hfnd,hq,by (repeat' (first|exact trivial|exact LeV.same _|exact LeB.same _|exact rfl|exact fun _ _ _=>trivial|refine And.intro ?_ ?_));done⟩⟩)|fail)
end Go.ST
end
section
namespace Go.ST
open Go Go.DL Go.MM Go.Proofs
open Go.TY hiding Fd
def esU (ns:List Int):List (T×T):=ns.map fun n=>(I n,T.bool true)
def tW (n:Int):List Int→List Int
 |[]=>[n]
 |x::xs=>if x=n then n::xs else x::tW n xs
theorem xz (a b:Int):eqL (I a).cells (I b).cells=decide (a=b):=by
 show ((a==b)&&true)=_
 rw [Bool.and_true]
 by_cases h:a=b <;> simp [h]
theorem yM (n:Int): ∀ns:List Int,bw (I n) (.bool true) (esU ns)=esU (tW n ns)
 |[]=>rfl
 |x::xs=>by
  have ih:=yM n xs
  show cond (eqL (I n).cells (I x).cells) _ _=esU (tW n (x::xs))
  rw [xz]
  unfold tW
  by_cases h:x=n
  ·rw [decide_eq_true h.symm,if_pos h];rfl
  ·rw [decide_eq_false (fun e=>h e.symm),if_neg h,cond_false]
   show (I x,T.bool true)::bw (I n) (.bool true) (esU xs)=_
   rw [ih];rfl
theorem wX {n m:Int}: ∀{ns:List Int},m∈tW n ns↔m=n∨m∈ns
 |[]=>by simp [tW]
 |x::xs=>by
  unfold tW
  by_cases h:x=n
  ·rw [if_pos h];subst h;simp
  ·rw [if_neg h,List.mem_cons,wX (ns:=xs),List.mem_cons]
   constructor
   ·rintro (h1|h1|h1) <;> simp [h1]
   ·rintro (h1|h1|h1) <;> simp [h1]
theorem xE (n:Int): ∀ns:List Int,nk (.bool false) false (dS (I n).cells (esU ns))= .bool (decide (n∈ns))
 |[]=>by simp;rfl
 |x::xs=>by
  have ih:=xE n xs
  show nk (.bool false) false (cond (eqL (I n).cells (I x).cells) (some (T.bool true)) (dS (I n).cells (esU xs)))=_
  rw [xz]
  by_cases h:n=x
  ·rw [decide_eq_true h,cond_true,decide_eq_true (by simp [h])];rfl
  ·rw [decide_eq_false h,cond_false,ih]
   congr 1
   simp [h]
def sX (o:List RE):List Int:=o.foldl (fun ns e=>tW e.n ns) []
theorem wm {m:Int}: ∀{o:List RE} {ns:List Int},m∈o.foldl (fun ns e=>tW e.n ns) ns↔m∈ns∨sD o m=true
 |[],ns=>by simp [sD]
 |e::o,ns=>by
  rw [List.foldl_cons,wm (o:=o),wX]
  unfold sD
  rw [List.any_cons,Bool.or_eq_true,decide_eq_true_eq]
  constructor
  ·rintro ((h|h)|h)
   ·exact Or.inr (Or.inl h.symm)
   ·exact Or.inl h
   ·exact Or.inr (Or.inr h)
  ·rintro (h|h|h)
   ·exact Or.inl (Or.inr h)
   ·exact Or.inl (Or.inl h.symm)
   ·exact Or.inr h
theorem xZ (o:List RE) (m:Int):decide (m∈sX o)=sD o m:=by
 have:=wm (m:=m) (o:=o) (ns:=[])
 unfold sX
 cases h:sD o m with
 |true=>exact decide_eq_true (this.2 (Or.inr h))
 |false=>
  refine decide_eq_false fun hm=>?_
  rcases this.1 hm with h2|h2
  ·cases h2
  ·rw [h] at h2;cases h2
theorem xY (o:List RE) {i:Nat} (h:i<o.length):sX (o.take (i+1))=tW o[i].n (sX (o.take i)):=by
 unfold sX
 rw [List.take_succ_eq_append_getElem h,List.foldl_append];rfl
end Go.ST
end
section
namespace Go.ST
open Go Go.DL Go.MM Go.Proofs
open Go.TY hiding Fd
theorem xW {ks:List Nat} {bx:Nat→Option BX} {ag:Bool} {sh:List Sh} {es es':List (T×T)} (h:es=es'):LeB ks bx (.m ag sh es none) (some (.m ag sh es' none)):=by rw [h];exact .same _
variable {l:List Fd} {s:RS} {st st' o:List RE} {x0 x1 x2 x3 x4 x5 x6 x7 x8 x9 y0 y1 y2 y3 y4 y5 y6 y7 y8 y9 tick:Int} {e:RE} {is:Bool}
attribute [local irreducible] bN WCM YC
theorem xp (hk:s.kind=4) (hol:o.length<2^40) (hs:0≤s.n∧s.n≤65535) (hOf:DCalls Tryz.prog 22 [esT st,.str s.var] (esT o)) (N:Int) (hN:N=if is then e.n else sG o o.length s.n)
  (hput:DCalls Tryz.prog 139 [esT st,rM ⟨e.var,e.key,N,tick⟩] (esT st')) (full:Bool) (hf:full=(!is&&decide (100≤o.length))) (big:Bool) (hb:big=(!is&&decide (N>s.m)))
  (hw:Wr l s.field [x0,x1,x2,x3,x4,x5,x6,x7,x8,x9] [y0,y1,y2,y3,y4,y5,y6,y7,y8,y9] N):
  bN Tryz.prog 84 Go.ST3.sZ (S0 l s st x0 x1 x2 x3 x4 x5 x6 x7 x8 x9 tick e is).mk' (fun ex s'=>ex= .normal∧(((full||big)=true∧bO (S1 l s x0 x1 x2 x3 x4 x5 x6 x7 x8 x9 tick is st x0 x1 x2 x3 x4 x5 x6 x7 x8 x9 ⟨e.var,e.key,N,tick⟩ false) s')∨((full||big)=false∧bO (S1 l s x0 x1 x2 x3 x4 x5 x6 x7 x8 x9 tick is st' y0 y1 y2 y3 y4 y5 y6 y7 y8 y9 ⟨e.var,e.key,N,tick⟩ true) s'))):=by
 obtain ⟨kk,var,key,field,n,m⟩:=s
 dsimp only at hk hOf hw hs hN hb
 subst hk
 have hoL:((o.map rM).length:Int)=o.length:=by rw [List.length_map]
 obtain ⟨hF,hM,hS,hno⟩:=hw
 refine Go.ST3.ur ?_
 cases is with
 |true=>
  obtain rfl:full=false:=by rw [hf];rfl
  obtain rfl:big=false:=by rw [hb];rfl
  obtain rfl:N=e.n:=hN
  cases hfo:rY l field with
  |true=>
   have hM:=hM hfo
   have hS:=hS hfo
   rw [hfo] at hF
   repeat' ((conv=>whnf);first|refine WC.toM (ry mixed Tryz.func55 Go.ST4.l55 rfl rfl (rs:=[.tmp 2]) rfl 3000 (nlZ rfl) ?_)|refine nT_ ?_|refine aS ?_|fail)
   repeat' ((conv=>whnf);first|refine ry mixed Tryz.func105 Go.ST4.sE rfl rfl (rs:=[.tmp 2]) rfl 3100 (nlZ rfl) ?_|refine nT_ ?_|refine aS ?_|fail)
   repeat' ((conv=>whnf);first|refine rD _ (hput) ?_|refine aS ?_|fail)
   refine ⟨_,rfl,?_⟩
   repeat' ((conv=>whnf);first|refine ry mixed Tryz.func106 Go.ST4.tV rfl rfl (rs:=[]) rfl 3200 (nlZ rfl) ?_|refine nT_ ?_|refine aS ?_|fail)
   repeat' ((conv=>whnf);first|refine rD _ (hF) ?_|refine rD _ (hM) ?_|refine rD _ (hS) ?_|refine nT_ ?_|refine aS ?_|fail)
   refine ⟨_,rfl,?_⟩
   skip
   refine ⟨_,rfl,?_⟩
   repeat' ((conv=>whnf);first|(exact ⟨rfl,Or.inr ⟨rfl,by (repeat' (first|exact trivial|exact LeV.same _|exact LeB.same _|exact rfl|exact fun _ _ _=>trivial|refine And.intro ?_ ?_));done⟩⟩)|fail)
  |false=>
   have hno:=hno hfo
   cases hno
   rw [hfo] at hF
   repeat' ((conv=>whnf);first|refine WC.toM (ry mixed Tryz.func55 Go.ST4.l55 rfl rfl (rs:=[.tmp 2]) rfl 3000 (nlZ rfl) ?_)|refine nT_ ?_|refine aS ?_|fail)
   repeat' ((conv=>whnf);first|refine ry mixed Tryz.func105 Go.ST4.sE rfl rfl (rs:=[.tmp 2]) rfl 3100 (nlZ rfl) ?_|refine nT_ ?_|refine aS ?_|fail)
   repeat' ((conv=>whnf);first|refine rD _ (hput) ?_|refine aS ?_|fail)
   refine ⟨_,rfl,?_⟩
   repeat' ((conv=>whnf);first|refine ry mixed Tryz.func106 Go.ST4.tV rfl rfl (rs:=[]) rfl 3200 (nlZ rfl) ?_|refine nT_ ?_|refine aS ?_|fail)
   repeat' ((conv=>whnf);first|refine rD _ (hF) ?_|refine aS ?_|fail)
   refine ⟨_,rfl,?_⟩
   skip
   refine ⟨_,rfl,?_⟩
   repeat' ((conv=>whnf);first|(exact ⟨rfl,Or.inr ⟨rfl,by (repeat' (first|exact trivial|exact LeV.same _|exact LeB.same _|exact rfl|exact fun _ _ _=>trivial|refine And.intro ?_ ?_));done⟩⟩)|fail)
 |false=>
  have hN:N=sG o o.length n:=hN
  have hdis:(rY l field=true∧DCalls Tryz.prog 107 [fds l,.str field] (.tup [fdc l field,.bool true])∧DCalls Tryz.prog 141 [fdc l field] (I ((2^(fld l field).w - 1:Nat):Int))∧DCalls Tryz.prog 140 [fdc l field,hd [x0,x1,x2,x3,x4,x5,x6,x7,x8,x9],I (xN (fld l field).w N)] (hd [y0,y1,y2,y3,y4,y5,y6,y7,y8,y9]))∨
    (DCalls Tryz.prog 107 [fds l,.str field] (.tup [fdc l field,.bool false])∧[y0,y1,y2,y3,y4,y5,y6,y7,y8,y9]=[x0,x1,x2,x3,x4,x5,x6,x7,x8,x9]):=by
   cases hfo:rY l field with
   |true=>rw [hfo] at hF;exact Or.inl ⟨rfl,hF,hM hfo,hS hfo⟩
   |false=>rw [hfo] at hF;exact Or.inr ⟨hF,hno hfo⟩
  have hbigd:(N>m∧big=true)∨(¬ N>m∧big=false):=by
   by_cases c:N>m
   ·exact Or.inl ⟨c,by rw [hb,decide_eq_true c];rfl⟩
   ·exact Or.inr ⟨c,by rw [hb,decide_eq_false c];rfl⟩
  have hfulld:(((o.map rM).length:Int)≥100∧full=true)∨(¬ ((o.map rM).length:Int)≥100∧full=false):=by
   by_cases c:100≤o.length
   ·exact Or.inl ⟨by omega,by rw [hf,decide_eq_true c];rfl⟩
   ·exact Or.inr ⟨by omega,by rw [hf,decide_eq_false c];rfl⟩
  have hfree:=xQ o n
  rw [← hN] at hfree
  clear hF hM hS hno hb hf
  repeat' ((conv=>whnf);first|refine WC.toM (ry mixed Tryz.func55 Go.ST4.l55 rfl rfl (rs:=[.tmp 2]) rfl 3000 (nlZ rfl) ?_)|refine nT_ ?_|refine aS ?_|fail)
  repeat' ((conv=>whnf);first|refine rD _ (hOf) ?_|fail)
  refine qY 0 (α:=Nat) (β:=Unit) (fun i=>{sl:=[(0,.ptr 37 0),(3,.mp 3019),(29,.t (esT o)),(30,.t (I o.length)),(31,.t (I i))],bx:=[(8,.d 10 [I x0,I x1,I x2,I x3,I x4,I x5,I x6,I x7,I x8,I x9]),(10,.d 10 z10),(3019,.m false [.int .i64] (esU (sX (o.take i))) none),(37,.d 24 (dL l ⟨4,var,key,field,n,m⟩ st x0 x1 x2 x3 x4 x5 x6 x7 x8 x9 tick ⟨e.var,e.key,e.n,tick⟩ false))],gh:=[(0,[(8,.ptr 8 0),(10,.ptr 10 0),(16,.ptr 37 0)])],off:=3000})
   (fun i=>i≤o.length) (fun i=>o.length - i)
   (fun _=>{sl:=[(0,.ptr 37 0),(3,.mp 3019)],bx:=[(8,.d 10 [I x0,I x1,I x2,I x3,I x4,I x5,I x6,I x7,I x8,I x9]),(10,.d 10 z10),(3019,.m false [.int .i64] (esU (sX o)) none),(37,.d 24 (dL l ⟨4,var,key,field,n,m⟩ st x0 x1 x2 x3 x4 x5 x6 x7 x8 x9 tick ⟨e.var,e.key,e.n,tick⟩ false))],gh:=[(0,[(8,.ptr 8 0),(10,.ptr 10 0),(16,.ptr 37 0)])],off:=3000}) (fun _=>True) 0 (Nat.zero_le _) ?_ ?_ ?_
  ·repeat' (first|(exact leI hoL.symm)|(exact xW rfl)|exact trivial|exact LeV.same _|exact LeB.same _|exact rfl|exact fun _ _ _=>trivial|refine And.intro ?_ ?_)
  ·rintro i hi
   rcases Nat.lt_or_ge i o.length with h|h
   ·have hlt:(i:Int)<(o.length:Int):=by omega
    have hnx:((i+1:Nat):Int)=IntKind.wrap .i64 ((i:Int)+1):=by rw [mQ] <;> omega
    have hg:=rU h
    have hsn:esU (sX (o.take (i+1)))=bw (I o[i].n) (.bool true) (esU (sX (o.take i))):=by rw [yM,xY o h]
    have hir:0≤(i:Int)∧(i:Int)<((o.map rM).length:Int):=by omega
    have hst:(o.map rM)[((i:Int)).toNat]?.getD .nil= .agg (rL o[i]):=by rw [Int.toNat_natCast];exact hg
    generalize o[i]=x at *
    have hko:aO false [.int .i64] (I x.n):=⟨rfl,rfl,trivial⟩
    repeat' ((conv=>whnf);first|refine qx hlt ?_|(refine nv_ (.agg (rL x)) (by first|exact hst|fail) ?_)|(exact ⟨i+1,h,(by omega),by (repeat' (first|(exact leI hnx)|(exact xW hsn)|exact trivial|exact LeV.same _|exact LeB.same _|exact rfl|exact fun _ _ _=>trivial|refine And.intro ?_ ?_));done⟩)|refine nT_ ?_|(refine And.intro (by first|exact hir|exact rN _|exact hko|fail) ?_)|refine aS ?_|fail)
   ·have hlt: ¬(i:Int)<(o.length:Int):=by omega
    have e0:esU (sX o)=esU (sX (o.take i)):=by rw [List.take_of_length_le h]
    repeat' ((conv=>whnf);first|refine qw hlt ?_|(exact ⟨(),trivial,by (repeat' (first|(exact xW e0)|exact trivial|exact LeV.same _|exact LeB.same _|exact rfl|exact fun _ _ _=>trivial|refine And.intro ?_ ?_));done⟩)|refine aS ?_|fail)
  ·rintro - -
   repeat' ((conv=>whnf);first|refine nT_ ?_|refine aS ?_|fail)
   refine qY 2 (α:=Nat) (β:=Unit) (fun j=>{sl:=[(0,.ptr 37 0),(3,.mp 3019)],bx:=[(8,.d 10 [I x0,I x1,I x2,I x3,I x4,I x5,I x6,I x7,I x8,I x9]),(10,.d 10 z10),(3019,.m false [.int .i64] (esU (sX o)) none),(37,.d 24 (dL l ⟨4,var,key,field,n,m⟩ st x0 x1 x2 x3 x4 x5 x6 x7 x8 x9 tick ⟨e.var,e.key,n+(j:Int),tick⟩ false))],gh:=[(0,[(8,.ptr 8 0),(10,.ptr 10 0),(16,.ptr 37 0)])],off:=3000})
    (fun j=>j≤o.length∧sG o (o.length - j) (n+j)=N) (fun j=>o.length - j)
    (fun _=>{sl:=[(0,.ptr 37 0)],bx:=[(8,.d 10 [I x0,I x1,I x2,I x3,I x4,I x5,I x6,I x7,I x8,I x9]),(10,.d 10 z10),(37,.d 24 (dL l ⟨4,var,key,field,n,m⟩ st x0 x1 x2 x3 x4 x5 x6 x7 x8 x9 tick ⟨e.var,e.key,N,tick⟩ false))],gh:=[(0,[(8,.ptr 8 0),(10,.ptr 10 0),(16,.ptr 37 0)])],off:=3000}) (fun _=>True) 0 ⟨Nat.zero_le _,by rw [hN];simp⟩ ?_ ?_ ?_
   ·have h0:(dL l ⟨4,var,key,field,n,m⟩ st x0 x1 x2 x3 x4 x5 x6 x7 x8 x9 tick ⟨e.var,e.key,n+((0:Nat):Int),tick⟩ false)=(dL l ⟨4,var,key,field,n,m⟩ st x0 x1 x2 x3 x4 x5 x6 x7 x8 x9 tick ⟨e.var,e.key,n,tick⟩ false):=by rw [show n+((0:Nat):Int)=n by omega]
    repeat' (first|(exact rJ h0)|exact trivial|exact LeV.same _|exact LeB.same _|exact rfl|exact fun _ _ _=>trivial|refine And.intro ?_ ?_)
   ·rintro j ⟨hj,hfr⟩
    have hlook:nk (.bool false) false (dS (I (n+(j:Int))).cells (esU (sX o)))= .bool (sD o (n+j)):=by rw [xE,xZ]
    have hko:aO false [.int .i64] (I (n+(j:Int))):=⟨rfl,rfl,trivial⟩
    cases hu:sD o (n+j) with
    |true=>
     rw [hu] at hlook
     have hjl:j<o.length:=by
      rcases Nat.lt_or_ge j o.length with h|h
      ·exact h
      ·rw [show o.length - j=0 by omega] at hfr
       have:n+(j:Int)=N:=hfr
       rw [this,hfree] at hu;cases hu
     have hnext:sG o (o.length - (j+1)) (n+((j+1:Nat):Int))=N:=by
      rw [← hfr,show o.length - j=(o.length - (j+1))+1 by omega]
      conv=>rhs;unfold sG
      rw [if_pos hu,show n+((j+1:Nat):Int)=n+j+1 by omega]
     have hwr:n+((j+1:Nat):Int)=IntKind.wrap .i64 (n+(j:Int)+1):=by rw [mQ (by omega) (by omega)];omega
     have hdl:(dL l ⟨4,var,key,field,n,m⟩ st x0 x1 x2 x3 x4 x5 x6 x7 x8 x9 tick ⟨e.var,e.key,n+((j+1:Nat):Int),tick⟩ false)=(dL l ⟨4,var,key,field,n,m⟩ st x0 x1 x2 x3 x4 x5 x6 x7 x8 x9 tick ⟨e.var,e.key,IntKind.wrap .i64 (n+(j:Int)+1),tick⟩ false):=by rw [hwr]
     repeat' ((conv=>whnf);first|(refine nv_ (.bool true) (by first|exact hlook|fail) ?_)|(exact ⟨j+1,⟨hjl,hnext⟩,(by omega),by (repeat' (first|(exact rJ hdl)|exact trivial|exact LeV.same _|exact LeB.same _|exact rfl|exact fun _ _ _=>trivial|refine And.intro ?_ ?_));done⟩)|refine nT_ ?_|(refine And.intro (by first|exact hko|fail) ?_)|refine aS ?_|fail)
    |false=>
     rw [hu] at hlook
     have hNj:N=n+(j:Int):=by
      rw [← hfr]
      cases hq:o.length - j with
      |zero=>rfl
      |succ q=>unfold sG;rw [if_neg (by rw [hu];simp)]
     have hdl:(dL l ⟨4,var,key,field,n,m⟩ st x0 x1 x2 x3 x4 x5 x6 x7 x8 x9 tick ⟨e.var,e.key,N,tick⟩ false)=(dL l ⟨4,var,key,field,n,m⟩ st x0 x1 x2 x3 x4 x5 x6 x7 x8 x9 tick ⟨e.var,e.key,n+(j:Int),tick⟩ false):=by rw [hNj]
     repeat' ((conv=>whnf);first|(refine nv_ (.bool false) (by first|exact hlook|fail) ?_)|(exact ⟨(),trivial,by (repeat' (first|(exact rJ hdl)|exact trivial|exact LeV.same _|exact LeB.same _|exact rfl|exact fun _ _ _=>trivial|refine And.intro ?_ ?_));done⟩)|refine nT_ ?_|(refine And.intro (by first|exact hko|fail) ?_)|refine aS ?_|fail)
   ·rintro - -
    rcases hbigd with ⟨c1,rfl⟩|⟨c1,rfl⟩
    ·repeat' ((conv=>whnf);first|refine qx c1 ?_|refine nT_ ?_|refine aS ?_|fail)
     refine ⟨_,rfl,?_⟩
     repeat' ((conv=>whnf);first|(exact ⟨rfl,Or.inl ⟨Bool.or_true _,by (repeat' (first|exact trivial|exact LeV.same _|exact LeB.same _|exact rfl|exact fun _ _ _=>trivial|refine And.intro ?_ ?_));done⟩⟩)|fail)
    ·rcases hfulld with ⟨c3,rfl⟩|⟨c3,rfl⟩
     ·repeat' ((conv=>whnf);first|refine qw c1 ?_|refine ry mixed Tryz.func105 Go.ST4.sE rfl rfl (rs:=[.tmp 2]) rfl 3100 (nlZ rfl) ?_|refine nT_ ?_|refine aS ?_|fail)
      repeat' ((conv=>whnf);first|refine rD _ (hOf) ?_|refine qx c3 ?_|refine aS ?_|fail)
      refine ⟨_,rfl,?_⟩
      skip
      refine ⟨_,rfl,?_⟩
      repeat' ((conv=>whnf);first|(exact ⟨rfl,Or.inl ⟨rfl,by (repeat' (first|exact trivial|exact LeV.same _|exact LeB.same _|exact rfl|exact fun _ _ _=>trivial|refine And.intro ?_ ?_));done⟩⟩)|fail)
     ·rcases hdis with ⟨-,hF,hM,hS⟩|⟨hF,hno⟩
      ·repeat' ((conv=>whnf);first|refine qw c1 ?_|refine ry mixed Tryz.func105 Go.ST4.sE rfl rfl (rs:=[.tmp 2]) rfl 3100 (nlZ rfl) ?_|refine nT_ ?_|refine aS ?_|fail)
       repeat' ((conv=>whnf);first|refine rD _ (hOf) ?_|refine qw c3 ?_|refine rD _ (hput) ?_|refine nT_ ?_|refine aS ?_|fail)
       refine ⟨_,rfl,?_⟩
       repeat' ((conv=>whnf);first|refine ry mixed Tryz.func106 Go.ST4.tV rfl rfl (rs:=[]) rfl 3200 (nlZ rfl) ?_|refine nT_ ?_|refine aS ?_|fail)
       repeat' ((conv=>whnf);first|refine rD _ (hF) ?_|refine rD _ (hM) ?_|refine rD _ (hS) ?_|refine nT_ ?_|refine aS ?_|fail)
       refine ⟨_,rfl,?_⟩
       skip
       refine ⟨_,rfl,?_⟩
       repeat' ((conv=>whnf);first|(exact ⟨rfl,Or.inr ⟨rfl,by (repeat' (first|exact trivial|exact LeV.same _|exact LeB.same _|exact rfl|exact fun _ _ _=>trivial|refine And.intro ?_ ?_));done⟩⟩)|fail)
      ·cases hno
       repeat' ((conv=>whnf);first|refine qw c1 ?_|refine ry mixed Tryz.func105 Go.ST4.sE rfl rfl (rs:=[.tmp 2]) rfl 3100 (nlZ rfl) ?_|refine nT_ ?_|refine aS ?_|fail)
       repeat' ((conv=>whnf);first|refine rD _ (hOf) ?_|refine qw c3 ?_|refine rD _ (hput) ?_|refine nT_ ?_|refine aS ?_|fail)
       refine ⟨_,rfl,?_⟩
       repeat' ((conv=>whnf);first|refine ry mixed Tryz.func106 Go.ST4.tV rfl rfl (rs:=[]) rfl 3200 (nlZ rfl) ?_|refine nT_ ?_|refine aS ?_|fail)
       repeat' ((conv=>whnf);first|refine rD _ (hF) ?_|refine aS ?_|fail)
       refine ⟨_,rfl,?_⟩
       skip
       refine ⟨_,rfl,?_⟩
       repeat' ((conv=>whnf);first|(exact ⟨rfl,Or.inr ⟨rfl,by (repeat' (first|exact trivial|exact LeV.same _|exact LeB.same _|exact rfl|exact fun _ _ _=>trivial|refine And.intro ?_ ?_));done⟩⟩)|fail)
end Go.ST
end
section
namespace Go.ST
open Go Go.DL Go.MM Go.Proofs
open Go.TY hiding Fd
variable {l:List Fd} {s:RS} {st st':List RE} {x0 x1 x2 x3 x4 x5 x6 x7 x8 x9 y0 y1 y2 y3 y4 y5 y6 y7 y8 y9 tick:Int} {e e':RE} {is pass:Bool}
attribute [local irreducible] bN WCM YC
theorem Bb {s':St} (hw:bO (S1 l s x0 x1 x2 x3 x4 x5 x6 x7 x8 x9 tick is st' y0 y1 y2 y3 y4 y5 y6 y7 y8 y9 e' pass) s') (r:List T)
  (hr:r=[hd (if pass then [y0,y1,y2,y3,y4,y5,y6,y7,y8,y9] else [x0,x1,x2,x3,x4,x5,x6,x7,x8,x9]),.bool pass,esT st']):
  bN Tryz.prog 84 Go.ST3.vC s' (fun e s=>match e with
   |.normal=>bN Tryz.prog 84 Go.ST3.vD s (qN Tryz.prog [.cell 10 27,.tmp 11,.tmp 12] r)
   |.exit id=>qN Tryz.prog [.cell 10 27,.tmp 11,.tmp 12] r (.exit id) s
   |.ret=>qN Tryz.prog [.cell 10 27,.tmp 11,.tmp 12] r .ret s):=by
 subst hr
 refine bN.bO hw (Go.ST3.BR ?_)
 cases pass with
 |false=>
  repeat' ((conv=>whnf);first|refine nT_ ?_|refine aS ?_|fail)
  refine ⟨?_,fun _ _=>trivial⟩
  repeat' ((conv=>whnf);first|exact trivial|refine rb0 ?_|refine aS ?_|fail)
 |true=>
  skip
  refine Go.ST3.BS ?_
  repeat' ((conv=>whnf);first|refine nT_ ?_|refine aS ?_|fail)
  refine ⟨?_,fun _ _=>trivial⟩
  repeat' ((conv=>whnf);first|exact trivial|refine rb1 ?_|refine aS ?_|fail)
theorem B8 (hlk:LOk l) {h:List Int} (hh:HOk h) (hkeys: ∀k∈s.key,rY l k=true) (hkl:s.key.length≤1000) (hinc:rZ st) (hlen:st.length<2^40) (hko: ∀x∈st,kOk x) (hk0:s.kind≠0)
  (f:Option RE) (hf:f=rV st s.var (keyOf l s.key h)) (r:List T)
  (hk: ∀(x0 x1 x2 x3 x4 x5 x6 x7 x8 x9:Int),h=[x0,x1,x2,x3,x4,x5,x6,x7,x8,x9]→ ∃(st':List RE) (y0 y1 y2 y3 y4 y5 y6 y7 y8 y9:Int) (e':RE) (pass:Bool),
   bN Tryz.prog 84 Go.ST3.sZ (S0 l s st x0 x1 x2 x3 x4 x5 x6 x7 x8 x9 tick (f.getD ⟨s.var,keyOf l s.key h,0,0⟩) f.isSome).mk' (fun ex s'=>ex= .normal∧bO (S1 l s x0 x1 x2 x3 x4 x5 x6 x7 x8 x9 tick f.isSome st' y0 y1 y2 y3 y4 y5 y6 y7 y8 y9 e' pass) s')∧
   r=[hd (if pass then [y0,y1,y2,y3,y4,y5,y6,y7,y8,y9] else [x0,x1,x2,x3,x4,x5,x6,x7,x8,x9]),.bool pass,esT st']):
  DCalls Tryz.prog 11 [fds l,tQ s,esT st,hd h,I tick] (lR r):=by
 refine qR Tryz.func11 Go.ST3.Bd rfl (r:=r) (nlZ rfl) ?_
 rw [show Tryz.f11.ntmps=84 from rfl,show Tryz.f11.results.toList=[.cell 10 27,.tmp 11,.tmp 12] from rfl,Go.ST3.k11]
 have hKey:=B9 l hlk s.key hkeys (by omega) h hh
 have hkol:(keyOf l s.key h).length<2^60:=by unfold keyOf;rw [List.length_map];omega
 have hFind:=yY st hinc hlen hko s.var (keyOf l s.key h) hkol
 rw [← hf] at hFind
 obtain ⟨x0,x1,x2,x3,x4,x5,x6,x7,x8,x9,rfl⟩:=ten hh
 obtain ⟨st',y0,y1,y2,y3,y4,y5,y6,y7,y8,y9,e',pass,hrun,hr⟩:=hk x0 x1 x2 x3 x4 x5 x6 x7 x8 x9 rfl
 have hrun2: ∀s0:St,bO (S0 l s st x0 x1 x2 x3 x4 x5 x6 x7 x8 x9 tick (f.getD ⟨s.var,keyOf l s.key [x0,x1,x2,x3,x4,x5,x6,x7,x8,x9],0,0⟩) f.isSome) s0→bN Tryz.prog 84 (.seq (.seq Go.ST3.sZ Go.ST3.vC) Go.ST3.vD) s0 (qN Tryz.prog [.cell 10 27,.tmp 11,.tmp 12] r):=by
  intro s0 hw
  refine bN.bO hw (bN.seq (bN.seq (bN.mono hrun ?_)))
  rintro ex s' ⟨rfl,hw'⟩
  exact Bb hw' r hr
 clear hrun hk
 generalize keyOf l s.key [x0,x1,x2,x3,x4,x5,x6,x7,x8,x9]=ky at *
 obtain ⟨kk,var,key,field,n,m⟩:=s
 dsimp only at *
 refine bN.seq (Go.ST3.zX ?_)
 repeat' ((conv=>whnf);first|refine aS ?_|fail)
 refine bN.seq (Go.ST3.zY ?_)
 repeat' ((conv=>whnf);first|refine qy hk0 ?_|refine nT_ ?_|refine aS ?_|fail)
 refine bN.seq (Go.ST3.BN ?_)
 repeat' ((conv=>whnf);first|refine aS ?_|fail)
 refine bN.seq (Go.ST3.BO ?_)
 repeat' ((conv=>whnf);first|refine rD _ (hKey) ?_|refine nT_ ?_|refine aS ?_|fail)
 refine bN.seq (Go.ST3.BP ?_)
 repeat' ((conv=>whnf);first|refine aS ?_|fail)
 refine bN.seq (Go.ST3.BQ ?_)
 cases f with
 |none=>
  repeat' ((conv=>whnf);first|refine rD _ (hFind) ?_|refine nT_ ?_|refine aS ?_|fail)
  refine hrun2 _ ?_
  repeat' (first|exact trivial|exact LeV.same _|exact LeB.same _|exact rfl|exact fun _ _ _=>trivial|refine And.intro ?_ ?_)
 |some x=>
  repeat' ((conv=>whnf);first|refine rD _ (hFind) ?_|refine nT_ ?_|refine aS ?_|fail)
  refine hrun2 _ ?_
  repeat' (first|exact trivial|exact LeV.same _|exact LeB.same _|exact rfl|exact fun _ _ _=>trivial|refine And.intro ?_ ?_)
end Go.ST
end
section
namespace Go.ST
open Go Go.DL Go.MM Go.Proofs
open Go.TY hiding Fd
attribute [local irreducible] bN WCM YC
abbrev dnT (d:Dn):T:=.tup [hd d.h,.bool d.pass,esT d.st]
theorem vp {α:Type} (f:Option α):f.isNone= !f.isSome:=by cases f <;> rfl
theorem B7 {l:List Fd} {s:RS} {st:List RE} {h:List Int} {tick:Int} (hh:HOk h) (hk0:s.kind=0):DCalls Tryz.prog 11 [fds l,tQ s,esT st,hd h,I tick] (dnT (doE l s st h tick)):=by
 have hd0:doE l s st h tick=⟨h,true,st⟩:=by unfold doE xc doR;rw [if_pos hk0];rfl
 rw [hd0]
 refine qR Tryz.func11 Go.ST3.Bd rfl (r:=[hd h,.bool true,esT st]) (nlZ rfl) ?_
 rw [show Tryz.f11.ntmps=84 from rfl,show Tryz.f11.results.toList=[.cell 10 27,.tmp 11,.tmp 12] from rfl,Go.ST3.k11]
 obtain ⟨x0,x1,x2,x3,x4,x5,x6,x7,x8,x9,rfl⟩:=ten hh
 obtain ⟨kk,var,key,field,n,m⟩:=s
 dsimp only at hk0
 refine bN.seq (Go.ST3.zX ?_)
 repeat' ((conv=>whnf);first|refine aS ?_|fail)
 refine bN.seq (Go.ST3.zY ?_)
 repeat' ((conv=>whnf);first|refine qz hk0 ?_|refine nT_ ?_|refine aS ?_|fail)
 refine ⟨?_,fun _ _=>trivial⟩
 repeat' ((conv=>whnf);first|exact trivial|refine rb1 ?_|refine aS ?_|fail)
theorem A0 (s:RS) (v:ByteArray) (ky:List Int) {tick en ea:Int} (_:1≤s.n∧s.n≤65535) (hm:1≤s.m∧s.m≤1073741824) (ht:0≤tick∧tick≤1073741824) (he:0≤en∧en≤65535) (ha:0≤ea∧ea≤1073741824):
  zQ s.n s.m tick en ea=((uq s ⟨v,ky,en,ea⟩ tick).n,(uq s ⟨v,ky,en,ea⟩ tick).at_):=by
 obtain ⟨m,hmm⟩: ∃m,m=s.m:=⟨_,rfl⟩
 have h1:W64 (tick - ea)=tick - ea:=mQ (by omega) (by omega)
 have h2:su tick ea s.m=if tick>ea then (tick - ea).tdiv s.m else 0:=by
  unfold su
  rw [h1]
  by_cases c:tick>ea
  ·rw [if_pos (show tick - ea>0 by omega),if_pos c]
   have b1:0≤(tick - ea).tdiv s.m:=Int.tdiv_nonneg (by omega) (by omega)
   have b2:(tick - ea).tdiv s.m≤tick - ea:=Int.tdiv_le_self _ (by omega)
   exact mQ (by omega) (by omega)
  ·rw [if_neg (show ¬tick - ea>0 by omega),if_neg c,Int.zero_tdiv]
   exact mQ (by omega) (by omega)
 have h3:0≤su tick ea s.m∧su tick ea s.m≤1073741824∧su tick ea s.m * s.m≤1073741824∧0≤su tick ea s.m * s.m:=by
  rw [h2]
  split
  ·have b1:0≤(tick - ea).tdiv s.m:=Int.tdiv_nonneg (by omega) (by omega)
   have b2:(tick - ea).tdiv s.m≤tick - ea:=Int.tdiv_le_self _ (by omega)
   have b3:(tick - ea).tdiv s.m * s.m≤tick - ea:=by
    rw [Int.tdiv_eq_ediv_of_nonneg (by omega)]
    exact Int.ediv_mul_le _ (by omega)
   have b4:0≤(tick - ea).tdiv s.m * s.m:=Int.mul_nonneg b1 (by omega)
   omega
  ·simp
 unfold zQ
 generalize su tick ea s.m=k at *
 have h4:W64 (en+k)=en+k:=mQ (by omega) (by omega)
 have h5:W64 (k * s.m)=k * s.m:=mQ (by omega) (by omega)
 have h6:W64 (ea+k * s.m)=ea+k * s.m:=mQ (by omega) (by omega)
 unfold uq
 dsimp only
 rw [h4,h5,h6, ←h2]
 split <;> rfl
theorem Dj {l:List Fd} {s:RS} {st:List RE} {h:List Int} {tick:Int} (p:xL l s st h tick) (hko: ∀x∈st,kOk x):DCalls Tryz.prog 11 [fds l,tQ s,esT st,hd h,I tick] (dnT (doE l s st h tick)):=by
 by_cases hk0:s.kind=0
 ·exact B7 p.hok hk0
 obtain ⟨f,hf⟩: ∃f,f=rV st s.var (keyOf l s.key h):=⟨_,rfl⟩
 obtain ⟨o,ho⟩: ∃o,o=ofE st s.var:=⟨_,rfl⟩
 obtain ⟨e,he⟩: ∃e,e=f.getD ⟨s.var,keyOf l s.key h,0,0⟩:=⟨_,rfl⟩
 have hlen:=p.len
 have hol:o.length≤1000000:=by rw [ho];exact Nat.le_trans (List.length_filter_le _ _) hlen
 have hkol:(keyOf l s.key h).length≤1000:=by unfold keyOf;rw [List.length_map];exact p.klen
 have hOf:=Bt st s.var (by omega)
 rw [show ofE st s.var=o from ho.symm] at hOf
 have hev:e.var=s.var∧e.key=keyOf l s.key h∧0≤e.n∧e.n≤65535∧0≤e.at_∧e.at_≤1073741824:=by
  cases f with
  |none=>rw [he];exact ⟨rfl,rfl,Int.le_refl 0,(by show (0:Int)≤65535;omega),Int.le_refl 0,(by show (0:Int)≤1073741824;omega)⟩
  |some x=>
   rw [he]
   obtain ⟨h1,h2,h3⟩:=td hf.symm
   exact ⟨h2,h3,p.num x h1⟩
 obtain ⟨he1,he2,he3,he4,he5,he6⟩:=hev
 have hput: ∀n a,DCalls Tryz.prog 139 [esT st,rM ⟨e.var,e.key,n,a⟩] (esT (rX ⟨s.var,keyOf l s.key h,n,a⟩ st)):=fun n a=>by
  rw [he1,he2]
  exact Cc st p.inc (by omega) hko ⟨s.var,keyOf l s.key h,n,a⟩ (show (keyOf l s.key h).length<2^60 by omega)
 have hres:doE l s st h tick=⟨(doR l s f o h tick).1,(doR l s f o h tick).2.1,ct (doR l s f o h tick).2.2 st⟩:=by unfold doE xc;rw [← hf, ←ho]
 have hfn:(f.map (·.n)).getD 0=e.n:=by rw [he];cases f <;> rfl
 have hfull:sR f o=(!f.isSome&&decide (100≤o.length)):=by unfold sR;rw [vp]
 have ht0:=p.t0;have ht1:=p.t1
 refine B8 p.lok p.hok p.keys p.klen p.inc (by omega) hko hk0 f hf [hd (doE l s st h tick).h,.bool (doE l s st h tick).pass,esT (doE l s st h tick).st] ?_
 intro x0 x1 x2 x3 x4 x5 x6 x7 x8 x9 hx
 rw [← he]
 have hk:=p.k0;have hk':=p.k1
 have hcase:s.kind=1∨s.kind=2∨s.kind=3∨s.kind=4∨s.kind=5∨s.kind=6:=by omega
 rcases hcase with h1|h2|h3|h4|h5|h6
 ·have hN:(if (65535:Int)<IntKind.wrap .i64 (e.n+1) then 65535 else IntKind.wrap .i64 (e.n+1))=min (e.n+1) 65535:=by rw [mQ (by omega) (by omega)];split <;> omega
  obtain ⟨y0,y1,y2,y3,y4,y5,y6,y7,y8,y9,hy⟩:=ten (vG p.lok p.hok (name:=s.field) (n:=min (e.n+1) 65535) (by omega))
  have hW:=yr p.lok s.field p.hok (n:=min (e.n+1) 65535) (by omega)
  rw [hy,hx] at hW
  have hc:=Az (x0:=x0) (x1:=x1) (x2:=x2) (x3:=x3) (x4:=x4) (x5:=x5) (x6:=x6) (x7:=x7) (x8:=x8) (x9:=x9) (tick:=tick) (is:=f.isSome) h1 hOf _ hN (hput _ tick) (sR f o) hfull hW
  have hd1:doR l s f o h tick=do1 l s f o h tick (keyOf l s.key h):=by unfold doR;rw [if_neg hk0,if_pos h1]
  cases hfu:sR f o with
  |true=>
   have hD:doE l s st h tick=⟨h,false,st⟩:=by rw [hres,hd1];unfold do1;rw [hfu];rfl
   rw [hD]
   rw [hfu] at hc
   refine ⟨st,x0,x1,x2,x3,x4,x5,x6,x7,x8,x9,⟨e.var,e.key,min (e.n+1) 65535,tick⟩,false,hc.mono ?_,?_⟩
   ·rintro ex s' ⟨h1,h2⟩
    rcases h2 with ⟨-,h2⟩|⟨h2, -⟩
    ·exact ⟨h1,h2⟩
    ·cases h2
   ·rw [hx];rfl
  |false=>
   have hD:doE l s st h tick=⟨wrF l h s.field (min (e.n+1) 65535),true,rX ⟨s.var,keyOf l s.key h,min (e.n+1) 65535,tick⟩ st⟩:=by rw [hres,hd1];unfold do1;rw [hfu,hfn];rfl
   rw [hD]
   rw [hfu] at hc
   refine ⟨rX ⟨s.var,keyOf l s.key h,min (e.n+1) 65535,tick⟩ st,y0,y1,y2,y3,y4,y5,y6,y7,y8,y9,⟨e.var,e.key,min (e.n+1) 65535,tick⟩,true,hc.mono ?_,?_⟩
   ·rintro ex s' ⟨h1,h2⟩
    rcases h2 with ⟨h2, -⟩|⟨-,h2⟩
    ·cases h2
    ·exact ⟨h1,h2⟩
   ·dsimp only;rw [hy];rfl
 ·have hd1:doR l s f o h tick=do2 s f o h tick (keyOf l s.key h):=by unfold doR;rw [if_neg hk0,if_neg (by omega),if_pos h2]
  have hc:=Bf (x0:=x0) (x1:=x1) (x2:=x2) (x3:=x3) (x4:=x4) (x5:=x5) (x6:=x6) (x7:=x7) (x8:=x8) (x9:=x9) (l:=l) (tick:=tick) (is:=f.isSome) h2 hOf (hput e.n tick) (sR f o) hfull
  cases hfu:sR f o with
  |true=>
   have hD:doE l s st h tick=⟨h,false,st⟩:=by rw [hres,hd1];unfold do2;rw [hfu];rfl
   rw [hD]
   rw [hfu] at hc
   exact ⟨st,x0,x1,x2,x3,x4,x5,x6,x7,x8,x9,⟨e.var,e.key,e.n,tick⟩,false,hc,by rw [hx];rfl⟩
  |false=>
   have hD:doE l s st h tick=⟨h,true,rX ⟨s.var,keyOf l s.key h,e.n,tick⟩ st⟩:=by rw [hres,hd1];unfold do2;rw [hfu,hfn];rfl
   rw [hD]
   rw [hfu] at hc
   exact ⟨rX ⟨s.var,keyOf l s.key h,e.n,tick⟩ st,x0,x1,x2,x3,x4,x5,x6,x7,x8,x9,⟨e.var,e.key,e.n,tick⟩,true,hc,by rw [hx];rfl⟩
 ·have hd1:doR l s f o h tick=do3 s f h tick:=by unfold doR;rw [if_neg hk0,if_neg (by omega),if_neg (by omega),if_pos h3]
  obtain ⟨b1,b2⟩:=p.k3 h3
  have hc:=Ay (x0:=x0) (x1:=x1) (x2:=x2) (x3:=x3) (x4:=x4) (x5:=x5) (x6:=x6) (x7:=x7) (x8:=x8) (x9:=x9) (l:=l) (st:=st) (tick:=tick) (e:=e) (is:=f.isSome) h3 _ rfl ⟨by omega,by omega⟩ ⟨by omega,by omega⟩
  have hD:doE l s st h tick=⟨h,f.isSome&&decide (e.at_≥tick - s.n),st⟩:=by
   rw [hres,hd1]
   unfold do3
   cases f with
   |none=>rfl
   |some x=>
    have:e=x:=he
    subst this
    rfl
  rw [hD]
  refine ⟨st,x0,x1,x2,x3,x4,x5,x6,x7,x8,x9,e,_,hc,?_⟩
  rw [hx]
  dsimp only
  rw [ite_self]
 ·have hd1:doR l s f o h tick=do4 l s f o h tick (keyOf l s.key h):=by unfold doR;rw [if_neg hk0,if_neg (by omega),if_neg (by omega),if_neg (by omega),if_pos h4]
  obtain ⟨b1,b2,b3,b4⟩:=p.k4 h4
  have hN:tE s f o=if f.isSome then e.n else sG o o.length s.n:=by
   rw [he];cases f <;> rfl
  have hN0:0≤tE s f o:=by
   rw [hN]
   split
   ·exact he3
   ·have:=(vo o o.length s.n).1;omega
  obtain ⟨y0,y1,y2,y3,y4,y5,y6,y7,y8,y9,hy⟩:=ten (vG p.lok p.hok (name:=s.field) hN0)
  have hW:=yr p.lok s.field p.hok hN0
  rw [hy,hx] at hW
  have hc:=xp (x0:=x0) (x1:=x1) (x2:=x2) (x3:=x3) (x4:=x4) (x5:=x5) (x6:=x6) (x7:=x7) (x8:=x8) (x9:=x9) (l:=l) (tick:=tick) (is:=f.isSome) h4 (by omega) ⟨b1,b2⟩ hOf _ hN (hput _ tick) (sR f o) hfull (f.isNone&&decide (tE s f o>s.m)) (by rw [vp]) hW
  cases hfu:(sR f o||(f.isNone&&decide (tE s f o>s.m))) with
  |true=>
   have hD:doE l s st h tick=⟨h,false,st⟩:=by rw [hres,hd1];unfold do4;rw [hfu];rfl
   rw [hD]
   rw [hfu] at hc
   refine ⟨st,x0,x1,x2,x3,x4,x5,x6,x7,x8,x9,⟨e.var,e.key,tE s f o,tick⟩,false,hc.mono ?_,?_⟩
   ·rintro ex s' ⟨h1,h2⟩
    rcases h2 with ⟨-,h2⟩|⟨h2, -⟩
    ·exact ⟨h1,h2⟩
    ·cases h2
   ·rw [hx];rfl
  |false=>
   have hD:doE l s st h tick=⟨wrF l h s.field (tE s f o),true,rX ⟨s.var,keyOf l s.key h,tE s f o,tick⟩ st⟩:=by rw [hres,hd1];unfold do4;rw [hfu];rfl
   rw [hD]
   rw [hfu] at hc
   refine ⟨rX ⟨s.var,keyOf l s.key h,tE s f o,tick⟩ st,y0,y1,y2,y3,y4,y5,y6,y7,y8,y9,⟨e.var,e.key,tE s f o,tick⟩,true,hc.mono ?_,?_⟩
   ·rintro ex s' ⟨h1,h2⟩
    rcases h2 with ⟨h2, -⟩|⟨-,h2⟩
    ·cases h2
    ·exact ⟨h1,h2⟩
   ·dsimp only;rw [hy];rfl
 ·have hd1:doR l s f o h tick=do5 l s o h:=by unfold doR;rw [if_neg hk0,if_neg (by omega),if_neg (by omega),if_neg (by omega),if_neg (by omega),if_pos h5]
  obtain ⟨b1,b2⟩:=p.k5 h5
  have hhx:=p.hok
  rw [hx] at hhx
  have hfd:(o.find? fun x=>decide (x.n=(sN (fld l s.field) h:Int)))=st.find? fun x=>decide (x.var=s.var)&&decide (x.n=(sN (fld l s.field) [x0,x1,x2,x3,x4,x5,x6,x7,x8,x9]:Int)):=by
   rw [ho,hx]
   unfold ofE
   rw [List.find?_filter]
   congr 1
   funext a
   simp
  have hc:=Be (x0:=x0) (x1:=x1) (x2:=x2) (x3:=x3) (x4:=x4) (x5:=x5) (x6:=x6) (x7:=x7) (x8:=x8) (x9:=x9) (l:=l) (tick:=tick) (e:=e) (is:=f.isSome) h5 p.lok (by omega) (by have:=p.klen;omega) hhx b1 (fun x hx hv=>b2 x hx hv) _ hfd
  cases hfu:(o.find? fun x=>decide (x.n=(sN (fld l s.field) h:Int))) with
  |none=>
   have hD:doE l s st h tick=⟨h,false,st⟩:=by rw [hres,hd1];unfold do5;rw [hfu];rfl
   rw [hD]
   rw [hfu] at hc
   refine ⟨st,x0,x1,x2,x3,x4,x5,x6,x7,x8,x9,e,false,hc.mono ?_,?_⟩
   ·rintro ex s' ⟨h1,h2⟩
    rcases h2 with ⟨-,h2⟩|⟨x,q,h2, -⟩
    ·exact ⟨h1,h2⟩
    ·cases h2
   ·rw [hx];rfl
  |some x=>
   have hD:doE l s st h tick=⟨tq l s.key x.key h,true,st⟩:=by rw [hres,hd1];unfold do5;rw [hfu];rfl
   rw [hD]
   rw [hfu] at hc
   have hxm:x∈st∧x.var=s.var:=by
    have h1:=List.mem_of_find?_eq_some hfu
    rw [ho] at h1
    have h2:=List.mem_filter.1 h1
    exact ⟨h2.1,of_decide_eq_true h2.2⟩
   obtain ⟨y0,y1,y2,y3,y4,y5,y6,y7,y8,y9,hy⟩:=ten (vT p.lok (ks:=s.key) p.hok (b2 x hxm.1 hxm.2).2)
   refine ⟨st,y0,y1,y2,y3,y4,y5,y6,y7,y8,y9,e,true,hc.mono ?_,?_⟩
   ·rintro ex s' ⟨h1,h2⟩
    rcases h2 with ⟨h2, -⟩|⟨x',q,h2,h3,h4⟩
    ·cases h2
    ·cases h2
     rw [← hx,hy] at h3
     obtain ⟨z0,z1,z2,z3,z4,z5,z6,z7,z8,z9⟩:=q
     simp only [H10.ls,List.cons.injEq,and_true] at h3
     obtain ⟨rfl,rfl,rfl,rfl,rfl,rfl,rfl,rfl,rfl,rfl⟩:=h3
     exact ⟨h1,h4⟩
   ·dsimp only
    rw [hy];rfl
 ·have hd1:doR l s f o h tick=do6 s f o h tick (keyOf l s.key h):=by unfold doR;rw [if_neg hk0,if_neg (by omega),if_neg (by omega),if_neg (by omega),if_neg (by omega),if_neg (by omega)]
  obtain ⟨b1,b2,b3,b4⟩:=p.k6 h6
  obtain ⟨en,hen⟩: ∃en,en=if f.isSome then e.n else s.n:=⟨_,rfl⟩
  obtain ⟨ea,hea⟩: ∃ea,ea=if f.isSome then e.at_ else tick:=⟨_,rfl⟩
  have hen0:0≤en∧en≤65535:=by rw [hen];split <;> omega
  have hea0:0≤ea∧ea≤1073741824:=by rw [hea];split <;> omega
  have htk:vf s f (keyOf l s.key h) tick=uq s ⟨s.var,keyOf l s.key h,en,ea⟩ tick:=by
   unfold vf
   cases f with
   |none=>rw [hen,hea];rfl
   |some x=>
    have hex:e=x:=he
    obtain ⟨g1,g2,g3⟩:=td hf.symm
    rw [hen,hea]
    show uq s x tick=uq s ⟨s.var,keyOf l s.key h,e.n,e.at_⟩ tick
    rw [hex, ←g2, ←g3]
  have hW:=A0 s s.var (keyOf l s.key h) ⟨b1,b2⟩ ⟨b3,b4⟩ ⟨ht0,ht1⟩ hen0 hea0
  obtain ⟨tn,htn⟩: ∃tn,tn=uq s ⟨s.var,keyOf l s.key h,en,ea⟩ tick:=⟨_,rfl⟩
  rw [← htn] at htk hW
  have htb:0≤tn.n∧tn.n≤65535 * 65536:=by
   rw [htn]
   have hk0:0≤(if tick>ea then (tick - ea).tdiv s.m else 0):=by
    split
    ·exact Int.tdiv_nonneg (by omega) (by omega)
    ·exact Int.le_refl 0
   unfold uq
   dsimp only
   generalize (if tick>ea then (tick - ea).tdiv s.m else 0)=k at *
   split
   ·exact ⟨by dsimp only;omega,by dsimp only;omega⟩
   ·exact ⟨by dsimp only;omega,by dsimp only;omega⟩
  have hc:=AA (x0:=x0) (x1:=x1) (x2:=x2) (x3:=x3) (x4:=x4) (x5:=x5) (x6:=x6) (x7:=x7) (x8:=x8) (x9:=x9) (l:=l) (tick:=tick) (is:=f.isSome) h6 (by omega) en ea tn.n tn.at_ hen hea hW (if tn.n>0 then tn.n - 1 else tn.n) (by
   split
   ·exact (mQ (by omega) (by omega)).symm
   ·rfl) hOf (hput _ _) (sR f o) hfull
  cases hfu:sR f o with
  |true=>
   have hD:doE l s st h tick=⟨h,false,st⟩:=by rw [hres,hd1];unfold do6;rw [hfu];rfl
   rw [hD]
   rw [hfu] at hc
   exact ⟨st,x0,x1,x2,x3,x4,x5,x6,x7,x8,x9,_,false,hc,by rw [hx];rfl⟩
  |false=>
   rw [hfu] at hc
   by_cases c:tn.n>0
   ·have hD:doE l s st h tick=⟨h,true,rX ⟨s.var,keyOf l s.key h,tn.n - 1,tn.at_⟩ st⟩:=by rw [hres,hd1];unfold do6;rw [htk,hfu,if_neg (by simp),if_pos c];rfl
    rw [hD]
    rw [if_pos c,decide_eq_true c] at hc
    exact ⟨rX ⟨s.var,keyOf l s.key h,tn.n - 1,tn.at_⟩ st,x0,x1,x2,x3,x4,x5,x6,x7,x8,x9,⟨e.var,e.key,tn.n - 1,tn.at_⟩,true,hc,by rw [hx];rfl⟩
   ·have hD:doE l s st h tick=⟨h,false,rX ⟨s.var,keyOf l s.key h,tn.n,tn.at_⟩ st⟩:=by rw [hres,hd1];unfold do6;rw [htk,hfu,if_neg (by simp),if_neg c];rfl
    rw [hD]
    rw [if_neg c,decide_eq_false c] at hc
    exact ⟨rX ⟨s.var,keyOf l s.key h,tn.n,tn.at_⟩ st,x0,x1,x2,x3,x4,x5,x6,x7,x8,x9,⟨e.var,e.key,tn.n,tn.at_⟩,false,hc,by rw [hx];rfl⟩
end Go.ST
end
section
end
section
end
section
end
section
end
section
end
section
end
section
namespace Go.MM
open Go Go.DL Go.Proofs
def vK:ByteArray:=⟨#[100,115,116]⟩
def vd:ByteArray:=⟨#[115,114,99]⟩
def wD:ByteArray:=⟨#[107,105,110,100]⟩
end Go.MM
end
section
end
section
end
section
end
section
end
section
end
section
end
section
end
section
end
section
end
section
end
section
end
section
end
section
end
section
end
section
end
section
namespace Go.MM
open Go Go.DL Go.Proofs
theorem wH:Tryz.prog.cellsOf 3=1:=by kernel_rfl
theorem tZ {us:List T} (h:cj Tryz.prog 3 us): ∃n,us=[I n]∧(Lit.int .i64 n).wf=true:=by
 cases h with
 |int h n hw=>rw [Tryz.underlying3] at h;cases h;exact ⟨n,rfl,hw⟩
 |bool h|str h|nil h|slice h|struct h|array h=>rw [Tryz.underlying3] at h;cases h
end Go.MM
end
section
namespace Go.MM
open Go Go.DL Go.Proofs
theorem yw:Tryz.prog.cellsOf 9=1:=by kernel_rfl
theorem BB:Tryz.prog.underlying 9=some .string:=by kernel_rfl
theorem wV {us:List T} (h:cj Tryz.prog 9 us): ∃s,us=[.str s]:=by
 cases h with
 |str h s hs=>exact ⟨s,rfl⟩
 |bool h|int h|nil h|slice h|struct h|array h=>rw [BB] at h;cases h
theorem BM {us:List T} (h:us.length=5): ∃a b c d e,us=[a,b,c,d,e]:=by
 match us,h with
 |[a,b,c,d,e],_=>exact ⟨a,b,c,d,e,rfl⟩
end Go.MM
end
section
namespace Go.TY
open Go Go.DL Go.MM Go.Proofs
theorem uP:Tryz.prog.underlying 59=some (.slice 3):=by kernel_rfl
theorem vV:Tryz.prog.cellsOf 59=1:=by kernel_rfl
theorem wJ:Tryz.prog.cellsOf 67=5:=by kernel_rfl
theorem mkVar (us:List T):mkT Tryz.prog 67 us= .agg us:=by unfold mkT;rw [Tryz.underlying67]
theorem mkInt (t:T):mkT Tryz.prog 3 [t]=t:=by unfold mkT;rw [Tryz.underlying3];rfl
theorem vP {us:List T} (h:cj Tryz.prog 59 us): ∃l:List Int,cV us [.slice 1 (l.map I)]∧l.length+1≤aN us:=by
 cases h with
 |nil h=>exact ⟨[],.cons (Les.nil 1) rfl .nil,by simp [aN,T.bulk]⟩
 |slice h xs hx hl=>
  rw [uP] at h
  cases h
  rw [wH]
  have key: ∃l:List Int,xs.map (mkT Tryz.prog 3)=l.map I∧l.length≤aN (xs.map (mkT Tryz.prog 3)):=by
   clear hl
   induction xs with
   |nil=>exact ⟨[],rfl,by simp⟩
   |cons x xs ih=>
    obtain ⟨s,rfl,_⟩:=tZ (hx x (by simp))
    obtain ⟨l,k1,k2⟩:=ih fun y hy=>hx y (by simp [hy])
    refine ⟨s::l,by simp only [List.map_cons,k1,mkInt],?_⟩
    simp only [List.map_cons,aN,mkInt,T.bulk,List.length_cons];omega
  obtain ⟨l,k1,k2⟩:=key
  refine ⟨l,by rw [← k1];exact .cons (Les.refl _) rfl .nil,by simp only [aN,T.bulk];omega⟩
 |int h|bool h|str h|array h|struct h=>rw [uP] at h;cases h
theorem Bp {us:List T} (h:cj Tryz.prog 67 us): ∃v:RV,cV us (rR v)∧v.name.size<aN us∧v.ws.length<aN us:=by
 cases h with
 |struct h us hl hf=>
  rw [Tryz.underlying67] at h
  cases h
  rw [wJ] at hl
  obtain ⟨a,b,c,d,e,rfl⟩:=BM hl
  have f0:=hf ⟨ "Name",9,0,false, "", "",0⟩ (by simp)
  have f1:=hf ⟨ "Family",3,1,false, "", "",16⟩ (by simp)
  have f2:=hf ⟨ "Widths",59,2,false, "", "",24⟩ (by simp)
  have f3:=hf ⟨ "N",3,3,false, "", "",48⟩ (by simp)
  have f4:=hf ⟨ "M",3,4,false, "", "",56⟩ (by simp)
  simp only [wH,yw,vV,List.drop,List.take] at f0 f1 f2 f3 f4
  obtain ⟨s,e0⟩:=wV f0
  obtain ⟨k,e1,_⟩:=tZ f1
  obtain ⟨l,g1,g2⟩:=vP f2
  obtain ⟨n,e3,_⟩:=tZ f3
  obtain ⟨m,e4,_⟩:=tZ f4
  simp only [List.cons.injEq,and_true] at e0 e1 e3 e4
  subst e0;subst e1;subst e3;subst e4
  refine ⟨⟨s,k,l,n,m⟩,.cons (Les.refl _) rfl (.cons (Les.refl _) rfl (cV.append (us:=[T.slice 1 (l.map I)]) g1 (.cons (Les.refl _) rfl (.cons (Les.refl _) rfl .nil)))),?_,?_⟩
  ·simp only [aN,T.bulk];omega
  ·simp only [aN,T.bulk] at g2 ⊢;omega
 |int h|bool h|str h|nil h|slice h|array h=>rw [Tryz.underlying67] at h;cases h
end Go.TY
end
section
end
section
end
section
end
section
end
section
end
section
end
section
end
section
end
section
end
section
end
section
namespace Go.TY
open Go Go.DL Go.MM Go.Proofs
theorem yI {ks:List Nat} {bx:Nat→Option BX} {n e w:Nat} {us xs:List T} (h:us=xs):LeV ks bx (.t (.slice w us)) (.own n e w xs):=by rw [h];exact LeV.data _ _ _ _
end Go.TY
end
section
end
section
end
section
end
section
end
section
end
section
end
section
end
section
end
section
end
section
end
section
end
section
end
section
end
section
end
section
end
section
end
section
end
section
end
section
end
section
end
section
end
section
end
section
end
section
end
section
end
section
end
section
end
section
end
section
end
section
namespace Go.ST
open Go Go.DL Go.MM
open Go.TY hiding Fd
def preB (l:List Fd) (s:RS) (st:List RE) (h:List Int) (tick:Int):Bool:=
 !rY l ⟨#[]⟩&&(h.length==10)&&tN h&&sL st&&decide (st.length≤1000000)&&st.all u9&&decide (0≤tick)&&decide (tick≤1073741824)&&decide (0≤s.kind)&&decide (s.kind≤6)
  &&s.key.all (rY l)&&decide (s.key.length≤1000)&&(!decide (s.kind=3)||(decide (0≤s.n)&&decide (s.n≤1073741824)))
  &&(!decide (s.kind=4)||(decide (0≤s.n)&&decide (s.n≤65535)&&decide (s.n≤s.m)&&decide (s.m≤65535)))
  &&(!decide (s.kind=5)||(rY l s.field&&st.all fun e=> !decide (e.var=s.var)||(decide (e.key.length=s.key.length)&&e.key.all fun x=>decide (0≤x))))
  &&(!decide (s.kind=6)||(decide (1≤s.n)&&decide (s.n≤65535)&&decide (1≤s.m)&&decide (s.m≤1073741824)))
  &&st.all fun e=>decide (e.key.length<2^60)
theorem AH {l:List Fd} (hl:LOk l) {s:RS} {st:List RE} {h:List Int} {tick:Int} (hp:preB l s st h tick=true):xL l s st h tick∧ ∀e∈st,e.key.length<2^60:=by
 unfold preB at hp
 simp only [Bool.and_eq_true,decide_eq_true_eq,List.all_eq_true,Bool.not_eq_true',beq_iff_eq,Bool.or_eq_true,decide_eq_false_iff_not] at hp
 obtain ⟨⟨⟨⟨⟨⟨⟨⟨⟨⟨⟨⟨⟨⟨⟨⟨a1,a2⟩,a3⟩,a4⟩,a5⟩,a6⟩,a7⟩,a8⟩,a9⟩,b1⟩,b2⟩,b3⟩,b4⟩,b5⟩,b6⟩,b7⟩,b8⟩:=hp
 refine ⟨⟨hl,a1,⟨a2,a3⟩,sP.1 a4,a5,fun e he=>?_,a7,a8,a9,b1,b2,b3,fun h3=>?_,fun h4=>?_,fun h5=>?_,fun h6=>?_⟩,b8⟩
 ·have:=a6 e he
  unfold u9 at this
  simp only [Bool.and_eq_true,decide_eq_true_eq] at this
  omega
 ·rcases b4 with h|h
  ·exact absurd h3 h
  ·exact h
 ·rcases b5 with h|h
  ·exact absurd h4 h
  ·omega
 ·rcases b6 with h|h
  ·exact absurd h5 h
  ·refine ⟨h.1,fun e he hv=>?_⟩
   rcases h.2 e he with h'|h'
   ·exact absurd hv h'
   ·exact h'
 ·rcases b7 with h|h
  ·exact absurd h6 h
  ·omega
abbrev s7 (t:Int×Int×Int):List Int:=[0,t.2.1 * 256+t.1,0,0,0,0,0,0,0,0]
def ym (l:List Fd) (s:RS) (name:ByteArray) (t:Int×Int×Int) (st:List RE):Int:=if (doE l s st (s7 t) t.2.2).pass then (sN (fld l name) (doE l s st (s7 t) t.2.2).h:Int) else -1
def sI (l:List Fd) (s:RS) (name:ByteArray):List (Int×Int×Int)→List Int×List RE→List Int×List RE
 |[],r=>r
 |t::ts,r=>sI l s name ts (r.1++[ym l s name t r.2],(doE l s r.2 (s7 t) t.2.2).st)
def vR (l:List Fd) (s:RS) (name:ByteArray):List (Int×Int×Int)→List RE→Bool
 |[],_=>true
 |t::ts,st=>decide (0≤t.1)&&decide (t.1<256)&&decide (0≤t.2.1)&&decide (t.2.1<256)&&preB l s st (s7 t) t.2.2&&tN (doE l s st (s7 t) t.2.2).h&&((doE l s st (s7 t) t.2.2).h.length==10)&&vR l s name ts (doE l s st (s7 t) t.2.2).st
end Go.ST
end
noncomputable section
namespace Go.ST7
open Go Go.DL Go.Proofs
def c43:bc:=(.seq (.region [⟨some 8,.alloc [Z0,S0,.nil,S0,Z0,Z0],none,[]⟩] []) (.seq (.region [mv 9 0,⟨some 10,.buildS 9 1 1 [S0] [(0,(.const (.str ⟨#[115,114,99]⟩)))],none,[]⟩,mv 11 1,mv 12 2,mv 13 3,⟨some 14,.build [Z0,S0,.nil,S0,Z0,Z0] [(0,1,(tm 9)),(1,1,(.const (.str ⟨#[118]⟩))),(2,1,(tm 10)),(3,1,(tm 11)),(4,1,(tm 12)),(5,1,(tm 13))],none,[]⟩,o0 (.store 6 (tm 8) (tm 14))] []) .ret))
theorem l43:(Tryz.f43.body.bind (bp Tryz.prog 15 []))=some c43:=by kernel_rfl
def c95:bc:=(.seq (.region [oo 0 (.mov (.const .nil))] []) (.seq (.region [⟨some 1,.build [S0,Z0,Z0] [(0,1,(.const (.str ⟨#[100,115,116]⟩))),(1,1,(Kc 16)),(2,1,(Kc 8))],none,[]⟩,⟨some 2,.build [S0,Z0,Z0] [(0,1,(.const (.str ⟨#[115,114,99]⟩))),(1,1,(Kc 24)),(2,1,(Kc 8))],none,[]⟩,⟨some 3,.build [S0,Z0,Z0] [(0,1,(.const (.str ⟨#[107,105,110,100]⟩))),(1,1,(Kc 33)),(2,1,(Kc 3))],none,[]⟩,⟨some 4,.buildS 54 3 3 [S0,Z0,Z0] [(0,(tm 1)),(1,(tm 2)),(2,(tm 3))],none,[]⟩,mv 0 4] []) .ret))
theorem l95:(Tryz.f95.body.bind (bp Tryz.prog 5 []))=some c95:=by kernel_rfl
end Go.ST7
end
section
namespace Go.STA
open Go Go.DL Go.Proofs
noncomputable def c42:bc:=(.seq (.region [oo 4 (.box 6 (tm 0)),oo 8 (.mov (.const .nil)),oo 9 (.mov (.const .nil))] []) (.seq (.region [oo 10 (.mov (.const .nil))] []) (.seq (.seq (.region [oo 11 (.mov (Kc 0))] []) (.block 0 (.loop (.seq (.seq (.region [mv 18 11,mv 19 3,ln 20 19,oo 21 (.bin .lss (tm 18) (tm 20))] []) (.cond (tm 21) .skip (.exit 0))) (.seq (.block 1 (.seq (.region [mv 24 3,mv 25 11,ix 26 3 24 25,oo 27 (.idxA 3 1 (tm 26) (Kc 1)),ld 28 27,oo 29 (.bin .mul (tm 28) (Kc 256)),mv 30 3,mv 31 11,ix 32 3 30 31,oo 33 (.idxA 3 1 (tm 32) (Kc 0)),ld 34 33,oo 35 (.bin .add (tm 29) (tm 34)),oo 36 (.build [Z0,Z0,Z0,Z0,Z0,Z0,Z0,Z0,Z0,Z0] [(0,1,(Kc 0)),(1,1,(tm 35))]),oo 12 (.alloc [Z0,Z0,Z0,Z0,Z0,Z0,Z0,Z0,Z0,Z0]),o0 (.store 10 (tm 12) (tm 36))] []) (.seq (.cut (.region [oo 38 (.call 95 []),lA 39 6 4,mv 40 1,lA 41 10 12,mv 42 3,mv 43 11,ix 44 3 42 43,oo 45 (.idxA 3 1 (tm 44) (Kc 2)),ld 46 45,oo 47 (.call 11 [(tm 38),(tm 39),(tm 40),(tm 41),(tm 46)]),mv 37 47,oo 48 (.ext (tm 37) 0),oo 49 (.ext (tm 37) 1),oo 50 (.ext (tm 37) 2),oo 13 (.alloc [Z0,Z0,Z0,Z0,Z0,Z0,Z0,Z0,Z0,Z0]),o0 (.store 10 (tm 13) (tm 48)),mv 14 49,mv 15 50] [])) (.seq (.region [mv 51 15,mv 1 51] []) (.seq (.cut (.region [oo 53 (.call 95 []),mv 54 2,oo 55 (.call 17 [(tm 53),(tm 54)]),mv 52 55,oo 56 (.ext (tm 52) 0),oo 57 (.ext (tm 52) 1),⟨some 16,.alloc [S0,Z0,Z0],none,[]⟩,o0 (.store 3 (tm 16) (tm 56)),mv 17 57] [])) (.seq (.region [mv 58 14] []) (.cond (tm 58) (.region [mv 59 10,lA 60 3 16,lA 61 10 13,oo 62 (.call 18 [(tm 60),(tm 61)]),oo 63 (.buildF 1 1 [Z0] [(0,(tm 62))]),oo 64 (.append 59 3 1 8 (tm 59) (tm 63)),mv 10 64] []) (.region [mv 65 10,oo 66 (.buildF 1 1 [Z0] [(0,(.const (.int .i64 (-1))))]),oo 67 (.append 59 3 1 8 (tm 65) (tm 66)),mv 10 67] [])))))))) (.region [mv 22 11,oo 23 (.bin .add (tm 22) (Kc 1)),mv 11 23] [])))))) (.seq (.region [mv 68 10,mv 69 1,mv 8 68,mv 9 69] []) .ret))))
theorem l42:(Tryz.f42.body.bind (bp Tryz.prog 70 [6000006,6000008,8000063,8000066]))=some c42:=by kernel_rfl
end Go.STA
end
section
namespace Go.ST
open Go Go.DL Go.MM Go.Proofs
open Go.TY hiding Fd
def vN:ByteArray:=⟨#[118]⟩
abbrev stp (k:Int) (f:ByteArray) (n m:Int):RS:=⟨k,vN,[vd],f,n,m⟩
theorem tM (k:Int) (f:ByteArray) (n m:Int):DCalls Tryz.prog 43 [I k,.str f,I n,I m] (tQ (stp k f n m)):=by
 refine qQ (rs:=[.cell 8 42]) mixed Tryz.func43 Go.ST7.l43 rfl rfl rfl (r:=[.agg (tX (stp k f n m))]) (nlZ rfl) ?_
 repeat' ((conv=>whnf);first|exact trivial|refine aS ?_|fail)
def L17:List Fd:=[⟨vK,16,8⟩,⟨vd,24,8⟩,⟨wD,33,3⟩]
theorem zx:LOk L17:=⟨by decide,fun f hf=>by
 simp only [L17,List.mem_cons,List.not_mem_nil,or_false] at hf
 rcases hf with rfl|rfl|rfl <;> exact ⟨by decide,by decide,by decide⟩⟩
theorem yH:DCalls Tryz.prog 95 [] (fds L17):=by
 refine qQ (rs:=[.tmp 0]) mixed Tryz.func95 Go.ST7.l95 rfl rfl rfl (r:=[fds L17]) (nlZ rfl) ?_
 repeat' ((conv=>whnf);first|exact trivial|refine aS ?_|fail)
abbrev tri (t:Int×Int×Int):T:=.agg [I t.1,I t.2.1,I t.2.2]
abbrev vg (ts:List (Int×Int×Int)):T:=.slice 3 (ts.map tri)
theorem xf (l:List Fd) (s:RS) (name:ByteArray): ∀(a b:List (Int×Int×Int)) (r:List Int×List RE),sI l s name (a++b) r=sI l s name b (sI l s name a r)
 |[],_,_=>rfl
 |_::a,b,_=>xf l s name a b _
theorem wy (l:List Fd) (s:RS) (name:ByteArray) {ts:List (Int×Int×Int)} {i:Nat} (h:i<ts.length) (r:List Int×List RE):
  sI l s name (ts.take (i+1)) r=((sI l s name (ts.take i) r).1++[ym l s name ts[i] (sI l s name (ts.take i) r).2],(doE l s (sI l s name (ts.take i) r).2 (s7 ts[i]) ts[i].2.2).st):=by
 rw [List.take_succ_eq_append_getElem h,xf];rfl
structure Cg (l:List Fd) (s:RS) (t:Int×Int×Int) (st:List RE):Prop where
 a0:0≤t.1
 a1:t.1<256
 b0:0≤t.2.1
 b1:t.2.1<256
 pre:xL l s st (s7 t) t.2.2
 k: ∀e∈st,kOk e
 ok:HOk (doE l s st (s7 t) t.2.2).h
theorem xH {l:List Fd} (hl:LOk l) {s:RS} {name:ByteArray}: ∀{ts:List (Int×Int×Int)} {r:List Int×List RE},vR l s name ts r.2=true→ ∀i (h:i<ts.length),Cg l s ts[i] (sI l s name (ts.take i) r).2
 |[],_,_,i,h=>by simp at h
 |t::ts,r,hb,i,h=>by
  unfold vR at hb
  simp only [Bool.and_eq_true,decide_eq_true_eq,beq_iff_eq] at hb
  obtain ⟨⟨⟨⟨⟨⟨⟨h1,h2⟩,h3⟩,h4⟩,h5⟩,h6⟩,h7⟩,h8⟩:=hb
  cases i with
  |zero=>
   obtain ⟨p,q⟩:=AH hl h5
   exact ⟨h1,h2,h3,h4,p,q,⟨h7,h6⟩⟩
  |succ i=>exact xH hl (ts:=ts) (r:=(r.1++[ym l s name t r.2],(doE l s r.2 (s7 t) t.2.2).st)) h8 i (by simpa using h)
theorem Dk {ts:List (Int×Int×Int)} {i:Nat} (h:i<ts.length):(ts.map tri)[i]?.getD .nil=tri ts[i]:=by simp [h]
theorem zN (s:RS) (st:List RE) (name:ByteArray) (ts:List (Int×Int×Int)) (hl:ts.length<2^20) (hb:vR L17 s name ts st=true) (hf:rY L17 name=true):
  DCalls Tryz.prog 42 [tQ s,esT st,.str name,vg ts] (.tup [.slice 1 ((sI L17 s name ts ([],st)).1.map I),esT (sI L17 s name ts ([],st)).2]):=by
 refine qQ (rs:=[.tmp 8,.tmp 9]) mixed Tryz.func42 Go.STA.l42 rfl rfl rfl (r:=[.slice 1 _,esT _]) (nlZ rfl) ?_
 have hn:((ts.map tri).length:Int)=ts.length:=by rw [List.length_map]
 have hA:=xH (name:=name) (r:=([],st)) zx hb
 have hEx:=yH
 have hlen: ∀i,i≤ts.length→(sI L17 s name (ts.take i) ([],st)).1.length=i:=by
  intro i
  induction i with
  |zero=>intro _;simp [sI]
  |succ i ih=>intro h;rw [wy L17 s name h,List.length_append,ih (by omega)];rfl
 have hFd:=AO L17 zx name
 rw [hf] at hFd
 have hFo:FOk (MM.fld L17 name):=Bj zx hf
 repeat' ((conv=>whnf);first|refine aS ?_|fail)
 refine qY 0 (α:=Nat×Nat) (β:=Unit) (fun p=>{sl:=[(1,.t (esT (sI L17 s name (ts.take p.1) ([],st)).2)),(2,.t (.str name)),(3,.t (vg ts)),(4,.ptr 4 0),(10,.own p.2 3 1 ((sI L17 s name (ts.take p.1) ([],st)).1.map I)),(11,.t (I p.1))],bx:=[(4,.d 6 (tX s))]})
  (fun p=>p.1≤ts.length∧(p.2=64∨p.2=67)) (fun p=>ts.length - p.1)
  (fun _=>{sl:=[(1,.t (esT (sI L17 s name ts ([],st)).2)),(10,.t (.slice 1 ((sI L17 s name ts ([],st)).1.map I)))],bx:=[]}) (fun _=>True) (0,64) ⟨by simp,Or.inl rfl⟩ ?_ ?_ ?_
 ·repeat' (first|exact trivial|exact LeV.same _|exact LeB.same _|exact rfl|exact fun _ _ _=>trivial|exact LeV.nil _ _ _|refine And.intro ?_ ?_)
 ·rintro ⟨i,r⟩ ⟨hi,hr⟩
  dsimp only at hi hr
  rcases Nat.lt_or_ge i ts.length with h|h
  ·have hlt:(i:Int)<((ts.map tri).length:Int):=by omega
   have hg:=Dk h
   have a:=hA i h
   have e1:=wy L17 s name h ([],st)
   have hol:=hlen i (by omega)
   have hdo:=Dj a.pre a.k
   have hget:=t57 (MM.fld L17 name) hFo _ a.ok
   obtain ⟨t,ht⟩: ∃t,ts[i]=t:=⟨_,rfl⟩
   rw [ht] at hg e1 hdo hget
   have b0:=ht▸a.a0;have b1:=ht▸a.a1;have b2:=ht▸a.b0;have b3:=ht▸a.b1
   have hx:=ten (ht▸a.ok)
   generalize sI L17 s name (ts.take i) ([],st)=q at *
   have e2:ym L17 s name t q.2=if (doE L17 s q.2 (s7 t) t.2.2).pass then (sN (fld L17 name) (doE L17 s q.2 (s7 t) t.2.2).h:Int) else -1:=rfl
   rw [e2] at e1
   obtain ⟨t0,t1,t2⟩:=t
   dsimp only at *
   have hmul:IntKind.wrap .i64 (IntKind.wrap .i64 (t1 * 256)+t0)=t1 * 256+t0:=by rw [mQ (n:=t1 * 256) (by omega) (by omega),mQ (by omega) (by omega)]
   have hnx:((i+1:Nat):Int)=IntKind.wrap .i64 ((i:Int)+1):=by rw [mQ] <;> omega
   have hH:hd (s7 (t0,t1,t2))= .agg [I 0,I (t1 * 256+t0),I 0,I 0,I 0,I 0,I 0,I 0,I 0,I 0]:=rfl
   rw [hH] at hdo
   generalize doE L17 s q.2 (s7 (t0,t1,t2)) t2=d at *
   obtain ⟨dh,dp,ds⟩:=d
   dsimp only at *
   obtain ⟨y0,y1,y2,y3,y4,y5,y6,y7,y8,y9,rfl⟩:=hx
   have hdo:DCalls Tryz.prog 11 [fds L17,tQ s,esT q.2,.agg [I 0,I (t1 * 256+t0),I 0,I 0,I 0,I 0,I 0,I 0,I 0,I 0],I t2] (.tup [hd [y0,y1,y2,y3,y4,y5,y6,y7,y8,y9],.bool dp,esT ds]):=hdo
   rw [← hmul] at hdo
   have hmu:ts.length - (i+1)<ts.length - i:=by omega
   have ha:=a
   clear hb hA hlen a
   repeat' ((conv=>whnf);first|refine qx hlt ?_|(refine nv_ (.agg [I t0,I t1,I t2]) (by first|exact hg|fail) ?_)|refine nT_ ?_|refine aS ?_|fail)
   refine rv (β:=Unit) (fun _=>{sl:=[(2,.t (.str name)),(3,.t (vg ts)),(4,.ptr 4 0),(10,.own r 3 1 (q.1.map I)),(11,.t (I i)),(13,.ptr 13 0),(14,.t (.bool dp)),(15,.t (esT ds))],bx:=[(4,.d 6 (tX s)),(13,.d 10 [I y0,I y1,I y2,I y3,I y4,I y5,I y6,I y7,I y8,I y9])]}) (fun _=>True) ?_ ?_
   ·repeat' ((conv=>whnf);first|(refine nv_ (.agg [I t0,I t1,I t2]) (by first|exact hg|fail) ?_)|refine rD _ (hEx) ?_|refine rD _ (hdo) ?_|(exact ⟨(),trivial,by (repeat' (first|exact trivial|exact LeV.same _|exact LeB.same _|exact rfl|exact fun _ _ _=>trivial|refine And.intro ?_ ?_));done⟩)|refine nT_ ?_|refine aS ?_|fail)
   rintro _ _
   clear hdo
   skip
   refine rv (β:=Unit) (fun _=>{sl:=[(1,.t (esT ds)),(2,.t (.str name)),(3,.t (vg ts)),(4,.ptr 4 0),(10,.own r 3 1 (q.1.map I)),(11,.t (I i)),(13,.ptr 13 0),(14,.t (.bool dp)),(16,.ptr 16 0)],bx:=[(4,.d 6 (tX s)),(13,.d 10 [I y0,I y1,I y2,I y3,I y4,I y5,I y6,I y7,I y8,I y9]),(16,.d 3 [.str (MM.fld L17 name).name,I (MM.fld L17 name).a,I (MM.fld L17 name).w])]}) (fun _=>True) ?_ ?_
   ·repeat' ((conv=>whnf);first|refine rD _ (hEx) ?_|refine rD _ (hFd) ?_|(exact ⟨(),trivial,by (repeat' (first|exact trivial|exact LeV.same _|exact LeB.same _|exact rfl|exact fun _ _ _=>trivial|refine And.intro ?_ ?_));done⟩)|refine aS ?_|fail)
   rintro _ _
   have hsn: ∀z:Int,(q.1++[z]).map I=q.1.map I++[I z]:=fun z=>by rw [List.map_append];rfl
   have hrm:((q.1.map I).length+1) * 8≤140737488355328:=by rw [List.length_map];omega
   clear hEx hFd
   cases dp with
   |true=>
    rw [if_pos rfl] at e1
    generalize (sN (MM.fld L17 name) [y0,y1,y2,y3,y4,y5,y6,y7,y8,y9]:Int)=z at *
    have hw1:(sI L17 s name (ts.take (i+1)) ([],st)).1.map I=q.1.map I++[I z]:=by rw [e1];exact hsn z
    have hw2:(sI L17 s name (ts.take (i+1)) ([],st)).2=ds:=by rw [e1]
    rcases hr with rfl|rfl
    all_goals
     repeat' ((conv=>whnf);first|refine rD _ (hget) ?_|(exact ⟨(i+1,64),⟨h,Or.inl rfl⟩,hmu,by (repeat' (first|(exact leI hnx)|(exact rH hw1)|((refine leT ?_;rw [hw2]))|exact trivial|exact LeV.same _|exact LeB.same _|exact rfl|exact fun _ _ _=>trivial|refine And.intro ?_ ?_));done⟩)|(refine And.intro (by first|exact hrm|fail) ?_)|refine aS ?_|fail)
   |false=>
    rw [if_neg (by simp)] at e1
    have hw1:(sI L17 s name (ts.take (i+1)) ([],st)).1.map I=q.1.map I++[I (-1)]:=by rw [e1];exact hsn _
    have hw2:(sI L17 s name (ts.take (i+1)) ([],st)).2=ds:=by rw [e1]
    rcases hr with rfl|rfl
    all_goals
     repeat' ((conv=>whnf);first|(exact ⟨(i+1,67),⟨h,Or.inr rfl⟩,hmu,by (repeat' (first|(exact leI hnx)|(exact rH hw1)|((refine leT ?_;rw [hw2]))|exact trivial|exact LeV.same _|exact LeB.same _|exact rfl|exact fun _ _ _=>trivial|refine And.intro ?_ ?_));done⟩)|(refine And.intro (by first|exact hrm|fail) ?_)|refine aS ?_|fail)
  ·have hlt: ¬(i:Int)<((ts.map tri).length:Int):=by omega
   obtain rfl:i=ts.length:=by omega
   rw [List.take_length]
   rcases hr with rfl|rfl <;> repeat' ((conv=>whnf);first|refine qw hlt ?_|(exact ⟨(),trivial,by (repeat' (first|(exact yI rfl)|exact trivial|exact LeV.same _|exact rfl|exact fun _ _ _=>trivial|refine And.intro ?_ ?_));done⟩)|refine aS ?_|fail)
 ·rintro _ _
  repeat' ((conv=>whnf);first|exact trivial|refine aS ?_|fail)
end Go.ST
end
section
end
section
end
section
end
noncomputable section
namespace Go.ST6
open Go Go.DL Go.Proofs
def c47:bc:=(.seq (.region [oo 4 (.mov kF)] []) (.seq (.region [mv 5 0,mv 6 1,oo 7 (.call 103 [(tm 5),(tm 6),(.const (.clos 104 []))]),mv 4 7] []) .ret))
theorem l47:(Tryz.f47.body.bind (bp Tryz.prog 8 []))=some c47:=by kernel_rfl
def Cm:bc:=(.seq (.region [oo 2 (.box 4 (tm 0)),oo 3 (.box 4 (tm 1)),oo 4 (.mov kF)] []) (.seq (.region [lA 5 4 2,lA 6 4 3,oo 7 (.call 29 [(tm 5),(tm 6)]),oo 8 (.bin .eql (tm 7) (Kc 0)),mv 9 8,oT 10 9 (.offA 2 (tm 2)),oT 11 9 (.load 1 false (tm 10)),oT 12 9 (.offA 2 (tm 3)),oT 13 9 (.load 1 false (tm 12)),oT 14 9 (.bin .eql (tm 11) (tm 13)),oo 15 (.pick (tm 9) (tm 14) kF),mv 16 15,oT 17 16 (.offA 3 (tm 2)),oT 18 16 (.load 1 false (tm 17)),oT 19 16 (.offA 3 (tm 3)),oT 20 16 (.load 1 false (tm 19)),oT 21 16 (.bin .eql (tm 18) (tm 20)),oo 22 (.pick (tm 16) (tm 21) kF),mv 4 22] []) .ret))
theorem CP:(Tryz.f104.body.bind (bp Tryz.prog 23 []))=some Cm:=by kernel_rfl
def Cl:bc:=(.seq (.region [oo 6 (.mov kF)] []) (.seq (.seq (.region [mv 10 0,ln 11 10,mv 12 1,ln 13 12,oo 14 (.bin .neq (tm 11) (tm 13))] []) (.cond (tm 14) (.seq (.region [oo 6 (.mov kF)] []) .ret) .skip)) (.seq (.seq (.region [mv 15 0,ln 16 15,oo 17 (.mov (Kc 0))] []) (.block 0 (.loop (.seq (.region [oo 18 (.bin .lss (tm 17) (tm 16))] []) (.seq (.cond (tm 18) .skip (.exit 0)) (.seq (.block 1 (.seq (.region [mv 19 17,ix 20 4 15 17,lA 21 4 20,⟨some 8,.alloc [S0,.nil,Z0,Z0],none,[]⟩,mv 7 19,o0 (.store 4 (tm 8) (tm 21))] []) (.seq (.region [mv 22 1,mv 23 7,ix 24 4 22 23,lA 25 4 24,⟨some 9,.alloc [S0,.nil,Z0,Z0],none,[]⟩,o0 (.store 4 (tm 9) (tm 25))] []) (.seq (.region [mv 26 2,lA 27 4 8,lA 28 4 9,oo 29 (.bS (tm 26) [(tm 27),(tm 28)]),oo 30 (.not (tm 29))] []) (.cond (tm 30) (.seq (.region [oo 6 (.mov kF)] []) .ret) .skip))))) (.region [oo 31 (.bin .add (tm 17) (Kc 1)),mv 17 31] []))))))) (.seq (.region [oo 6 (.mov kT)] []) .ret))))
theorem CO:(Tryz.f103.body.bind (bp Tryz.prog 32 []))=some Cl:=by kernel_rfl
def c97:bc:=(.seq (.region [⟨some 2,.mov (.const S0),none,[]⟩,oo 3 (.mov (Kc 0)),oo 4 (.mov (Kc 0))] []) (.seq (.region [mv 9 0,oo 10 (.call 135 [(tm 9),(Kc 1)]),mv 8 10,oo 11 (.ext (tm 8) 0),oo 12 (.ext (tm 8) 1),oo 13 (.ext (tm 8) 2),mv 5 11,mv 6 12,mv 7 13] []) (.seq (.seq (.region [mv 14 7,oo 15 (.bin .neq (tm 14) (Kc 0))] []) (.cond (tm 15) (.seq (.region [mv 16 7,⟨some 2,.mov (.const S0),none,[]⟩,oo 3 (.mov (Kc 0)),mv 4 16] []) .ret) .skip)) (.seq (.region [mv 17 0,mv 18 6,mv 19 6,mv 20 5,oo 21 (.bin .add (tm 19) (tm 20)),oo 22 (.slice 1 (tm 17) (some (tm 18)) (some (tm 21))),oo 23 (.prim .strB (tm 22)),mv 24 6,mv 25 5,oo 26 (.bin .add (tm 24) (tm 25)),mv 2 23,mv 3 26,oo 4 (.mov (Kc 0))] []) .ret))))
theorem l97:(Tryz.f97.body.bind (bp Tryz.prog 27 []))=some c97:=by kernel_rfl
def c46:bc:=(.seq (.region [oo 2 (.mov (.const .nil))] []) (.seq (.region [mv 6 0,ln 7 6,oo 8 (.call 99 [tm 7]),mv 3 8] []) (.seq (.seq (.region [mv 9 0,ln 10 9,oo 11 (.mov (Kc 0))] []) (.block 0 (.loop (.seq (.region [oo 12 (.bin .lss (tm 11) (tm 10))] []) (.seq (.cond (tm 12) .skip (.exit 0)) (.seq (.block 1 (.seq (.region [ix 13 4 9 11,lA 14 4 13,⟨some 5,.alloc [S0,.nil,Z0,Z0],none,[]⟩,o0 (.store 4 (tm 5) (tm 14))] []) (.region [mv 15 3,fa 16 0 5,ld 17 16,oo 18 (.call 101 [tm 17]),fa 19 1 5,ld 20 19,oo 21 (.call 102 [tm 20]),fa 22 2 5,ld 23 22,fa 24 3 5,ld 25 24,oo 26 (.buildT 1 2 [Z0] [(0,(tm 23)),(1,(tm 25))]),oo 27 (.call 102 [tm 26]),oo 28 (.buildT 1 4 [.nil] [(0,(tm 15)),(1,(tm 18)),(2,(tm 21)),(3,(tm 27))]),oo 29 (.call 100 [tm 28]),mv 3 29] []))) (.region [oo 30 (.bin .add (tm 11) (Kc 1)),mv 11 30] []))))))) (.seq (.region [mv 31 3,mv 2 31] []) .ret))))
theorem l46:(Tryz.f46.body.bind (bp Tryz.prog 32 []))=some c46:=by kernel_rfl
def Ci:bc:=(.seq (.region [oo 2 (.mov (.const .nil))] []) (.seq (.region [oo 3 (.mov (Kc 0))] []) (.seq (.seq (.region [mv 9 0,ln 10 9,oo 11 (.mov (Kc 0))] []) (.block 0 (.loop (.seq (.region [oo 12 (.bin .lss (tm 11) (tm 10))] []) (.seq (.cond (tm 12) .skip (.exit 0)) (.seq (.block 1 (.seq (.region [ix 13 1 9 11,ld 14 13,mv 5 14] []) (.seq (.region [mv 15 3,mv 16 5,ln 17 16,oo 18 (.bin .add (tm 15) (tm 17)),mv 3 18] []) (.seq (.region [mv 19 3,oo 20 (.bin .lss (tm 19) (Kc 0))] []) (.cond (tm 20) (.region [oo 21 (.bad),o0 (.bad)] []) .skip))))) (.region [oo 22 (.bin .add (tm 11) (Kc 1)),mv 11 22] []))))))) (.seq (.region [mv 23 3,oo 24 (.inl 137 [(.const .nil),(tm 23)]),mv 6 24] []) (.seq (.seq (.region [mv 25 0,ln 26 25,oo 27 (.mov (Kc 0))] []) (.block 2 (.loop (.seq (.region [oo 28 (.bin .lss (tm 27) (tm 26))] []) (.seq (.cond (tm 28) .skip (.exit 2)) (.seq (.block 3 (.seq (.region [ix 29 1 25 27,ld 30 29,mv 8 30] []) (.region [mv 31 6,mv 32 8,oo 33 (.append 98 5 1 1 (tm 31) (tm 32)),mv 6 33] []))) (.region [oo 34 (.bin .add (tm 27) (Kc 1)),mv 27 34] []))))))) (.seq (.region [mv 35 6,mv 2 35] []) .ret))))))
theorem CL:(Tryz.f100.body.bind (bp Tryz.prog 36 [137]))=some Ci:=by kernel_rfl
def c13:bc:=(.seq (.region [oo 4 (.mov kF)] []) (.seq (.seq (.region [mv 6 0,ln 7 6,mv 8 1,ln 9 8,oo 10 (.bin .neq (tm 7) (tm 9))] []) (.cond (tm 10) (.seq (.region [oo 4 (.mov kF)] []) .ret) .skip)) (.seq (.seq (.region [oo 5 (.mov (Kc 0))] []) (.block 0 (.loop (.seq (.seq (.region [mv 11 5,mv 12 0,ln 13 12,oo 14 (.bin .lss (tm 11) (tm 13))] []) (.cond (tm 14) .skip (.exit 0))) (.seq (.block 1 (.seq (.region [mv 17 0,mv 18 5,ix 19 4 17 18,fa 20 0 19,ld 21 20,mv 22 1,mv 23 5,ix 24 4 22 23,fa 25 0 24,ld 26 25,oo 27 (.bin .neq (tm 21) (tm 26)),mv 28 27,mF 29 0 28,mF 30 5 28,oF 31 28 (.idxL 4 (tm 29) (tm 30)),oF 32 28 (.offA 2 (tm 31)),oF 33 28 (.load 1 false (tm 32)),mF 34 1 28,mF 35 5 28,oF 36 28 (.idxL 4 (tm 34) (tm 35)),oF 37 28 (.offA 2 (tm 36)),oF 38 28 (.load 1 false (tm 37)),oF 39 28 (.bin .neq (tm 33) (tm 38)),oo 40 (.pick (tm 28) kT (tm 39)),mv 41 40,mF 42 0 41,mF 43 5 41,oF 44 41 (.idxL 4 (tm 42) (tm 43)),oF 45 41 (.offA 3 (tm 44)),oF 46 41 (.load 1 false (tm 45)),mF 47 1 41,mF 48 5 41,oF 49 41 (.idxL 4 (tm 47) (tm 48)),oF 50 41 (.offA 3 (tm 49)),oF 51 41 (.load 1 false (tm 50)),oF 52 41 (.bin .neq (tm 46) (tm 51)),oo 53 (.pick (tm 41) kT (tm 52)),mv 54 53,mF 55 0 54,mF 56 5 54,oF 57 54 (.idxL 4 (tm 55) (tm 56)),oF 58 54 (.offA 1 (tm 57)),oF 59 54 (.load 1 false (tm 58)),mF 60 1 54,mF 61 5 54,oF 62 54 (.idxL 4 (tm 60) (tm 61)),oF 63 54 (.offA 1 (tm 62)),oF 64 54 (.load 1 false (tm 63)),oF 65 54 (.call 21 [(tm 59),(tm 64)]),oF 66 54 (.bin .neq (tm 65) (Kc 0)),oo 67 (.pick (tm 54) kT (tm 66))] []) (.cond (tm 67) (.seq (.region [oo 4 (.mov kF)] []) .ret) .skip))) (.region [mv 15 5,oo 16 (.bin .add (tm 15) (Kc 1)),mv 5 16] [])))))) (.seq (.region [oo 4 (.mov kT)] []) .ret))))
theorem l13:(Tryz.f13.body.bind (bp Tryz.prog 68 []))=some c13:=by kernel_rfl
def c24:bc:=(.seq (.region [oo 2 (.mov kF)] []) (.seq (.seq (.region [oo 3 (.mov (Kc 1))] []) (.block 0 (.loop (.seq (.seq (.region [mv 4 3,mv 5 0,ln 6 5,oo 7 (.bin .lss (tm 4) (tm 6))] []) (.cond (tm 7) .skip (.exit 0))) (.seq (.block 1 (.seq (.region [mv 10 0,mv 11 3,oo 12 (.bin .sub (tm 11) (Kc 1)),ix 13 4 10 12,lA 14 4 13,mv 15 0,mv 16 3,ix 17 4 15 16,lA 18 4 17,oo 19 (.call 67 [(tm 14),(tm 18)]),oo 20 (.bin .geq (tm 19) (Kc 0))] []) (.cond (tm 20) (.seq (.region [oo 2 (.mov kF)] []) .ret) .skip))) (.region [mv 8 3,oo 9 (.bin .add (tm 8) (Kc 1)),mv 3 9] [])))))) (.seq (.region [oo 2 (.mov kT)] []) .ret)))
theorem l24:(Tryz.f24.body.bind (bp Tryz.prog 21 []))=some c24:=by kernel_rfl
def c44:bc:=(.seq (.region [oo 2 (.mov kF)] []) (.seq (.seq (.region [oo 3 (.mov (Kc 0))] []) (.block 0 (.loop (.seq (.seq (.region [mv 4 3,mv 5 0,ln 6 5,oo 7 (.bin .lss (tm 4) (tm 6))] []) (.cond (tm 7) .skip (.exit 0))) (.seq (.block 1 (.seq (.region [mv 10 0,mv 11 3,ix 12 1 10 11,ld 13 12,mv 14 3,oo 15 (.bin .add (tm 14) (Kc 1)),oo 16 (.minI (tm 15) (Kc 7)),oo 17 (.bin .neq (tm 13) (tm 16))] []) (.cond (tm 17) (.seq (.region [oo 2 (.mov kF)] []) .ret) .skip))) (.region [mv 8 3,oo 9 (.bin .add (tm 8) (Kc 1)),mv 3 9] [])))))) (.seq (.region [mv 18 0,ln 19 18,oo 20 (.bin .eql (tm 19) (Kc 10)),mv 2 20] []) .ret)))
theorem l44:(Tryz.f44.body.bind (bp Tryz.prog 21 []))=some c44:=by kernel_rfl
end Go.ST6
end
section
namespace Go.ST
open Go Go.DL Go.MM Go.Proofs
open Go.TY hiding Fd
theorem B5 (a b:RE):a=b↔rQ a b=0∧a.n=b.n∧a.at_=b.at_:=by
 rw [tz]
 obtain ⟨v,k,n,t⟩:=a
 obtain ⟨v',k',n',t'⟩:=b
 simp [and_assoc]
theorem AX (a b:RE) (ha:kOk a) (hb:kOk b):DCalls Tryz.prog 104 [.agg (rL a),.agg (rL b)] (.bool (decide (a=b))):=by
 have hC:=sK a b ha hb
 have hiff:=B5 a b
 refine qQ (rs:=[.tmp 4]) mixed Tryz.func104 Go.ST6.CP rfl rfl rfl (r:=[.bool _]) (nlZ rfl) ?_
 by_cases c1:rQ a b=0
 ·by_cases c2:a.n=b.n
  ·by_cases c3:a.at_=b.at_
   ·rw [decide_eq_true (hiff.2 ⟨c1,c2,c3⟩)]
    repeat' ((conv=>whnf);first|exact trivial|refine rD _ (hC) ?_|refine qz c1 ?_|refine qz c2 ?_|refine qz c3 ?_|refine nT_ ?_|refine rb1 ?_|(refine And.intro (by first|exact rN _|fail) ?_)|refine aS ?_|fail)
   ·rw [decide_eq_false fun e=>c3 (hiff.1 e).2.2]
    repeat' ((conv=>whnf);first|exact trivial|refine rD _ (hC) ?_|refine qz c1 ?_|refine qz c2 ?_|refine qy c3 ?_|refine nT_ ?_|refine rb0 ?_|(refine And.intro (by first|exact rN _|fail) ?_)|refine aS ?_|fail)
  ·rw [decide_eq_false fun e=>c2 (hiff.1 e).2.1]
   repeat' ((conv=>whnf);first|exact trivial|refine rD _ (hC) ?_|refine qz c1 ?_|refine qy c2 ?_|refine nT_ ?_|refine rb0 ?_|(refine And.intro (by first|exact rN _|fail) ?_)|refine aS ?_|fail)
 ·rw [decide_eq_false fun e=>c1 (hiff.1 e).1]
  repeat' ((conv=>whnf);first|exact trivial|refine rD _ (hC) ?_|refine qy c1 ?_|refine rb0 ?_|(refine And.intro (by first|exact rN _|fail) ?_)|refine aS ?_|fail)
theorem wN {a b:List RE} (hl:a.length=b.length):decide (a=b)=true↔ ∀j (h:j<a.length) (h':j<b.length),a[j]=b[j]:=by
 rw [decide_eq_true_eq]
 constructor
 ·intro e;subst e;intros;rfl
 ·intro h;exact List.ext_getElem hl h
theorem zJ (a b:List RE) (_:a.length<2^40) (hlb:b.length<2^40) (hka: ∀x∈a,kOk x) (hkb: ∀x∈b,kOk x):DCalls Tryz.prog 103 [esT a,esT b,.clos 104 []] (.bool (decide (a=b))):=by
 have hn:((a.map rM).length:Int)=a.length:=by rw [List.length_map]
 have hm:((b.map rM).length:Int)=b.length:=by rw [List.length_map]
 refine qQ (rs:=[.tmp 6]) mixed Tryz.func103 Go.ST6.CO rfl rfl rfl (r:=[.bool _]) (nlZ rfl) ?_
 by_cases hab:a.length=b.length
 case neg=>
  rw [decide_eq_false fun e=>hab (by rw [e])]
  have hne:((a.map rM).length:Int)≠((b.map rM).length:Int):=by omega
  repeat' ((conv=>whnf);first|exact trivial|refine qB hne ?_|refine rb0 ?_|refine aS ?_|fail)
 have heq:((a.map rM).length:Int)=((b.map rM).length:Int):=by omega
 repeat' ((conv=>whnf);first|refine qA heq ?_|refine aS ?_|fail)
 refine rm (α:=Nat) (fun i=>{sl:=[(1,.t (esT b)),(2,.t (.clos 104 [])),(15,.t (esT a)),(16,.t (I a.length)),(17,.t (I i))],bx:=[]})
  (fun i=>i≤a.length∧ ∀j (h:j<a.length) (h':j<b.length),j<i→a[j]=b[j]) (fun i=>a.length - i) 0 ⟨Nat.zero_le _,fun j _ _ h=>by omega⟩ ?_ ?_
 ·repeat' (first|(exact leI hn.symm)|exact trivial|exact LeV.same _|exact rfl|exact fun _ _ _=>trivial|refine And.intro ?_ ?_)
 rintro i ⟨hi,hp⟩
 rcases Nat.lt_or_ge i a.length with h|h
 ·have h':i<b.length:=by omega
  have hlt:(i:Int)<(a.length:Int):=by omega
  have hS:=AX a[i] b[i] (hka _ (List.getElem_mem h)) (hkb _ (List.getElem_mem h'))
  have hnx:((i+1:Nat):Int)=IntKind.wrap .i64 ((i:Int)+1):=by rw [mQ] <;> omega
  have g1:(a.map rM)[((i:Int)).toNat]?.getD .nil= .agg (rL a[i]):=by rw [Int.toNat_natCast];exact rU h
  have g2:(b.map rM)[((i:Int)).toNat]?.getD .nil= .agg (rL b[i]):=by rw [Int.toNat_natCast];exact rU h'
  have b1:0≤(i:Int)∧(i:Int)<((a.map rM).length:Int):=by omega
  have b2:0≤(i:Int)∧(i:Int)<((b.map rM).length:Int):=by omega
  by_cases e:a[i]=b[i]
  ·rw [decide_eq_true e] at hS
   have hp': ∀j (h:j<a.length) (h':j<b.length),j<i+1→a[j]=b[j]:=fun j h1 h2 h3=>by
    rcases Nat.lt_or_ge j i with h4|h4
    ·exact hp j h1 h2 h4
    ·obtain rfl:j=i:=by omega
     exact e
   have hmu:a.length - (i+1)<a.length - i:=by omega
   repeat' ((conv=>whnf);first|refine qx hlt ?_|(refine nv_ (.agg (rL a[i])) (by first|exact g1|fail) ?_)|(refine nv_ (.agg (rL b[i])) (by first|exact g2|fail) ?_)|refine rD _ (hS) ?_|(exact ⟨i+1,⟨h,hp'⟩,hmu,by (repeat' (first|(exact leI hnx)|exact trivial|exact LeV.same _|exact rfl|exact fun _ _ _=>trivial|refine And.intro ?_ ?_));done⟩)|refine nT_ ?_|(refine And.intro (by first|exact b1|exact b2|exact rN _|fail) ?_)|refine aS ?_|fail)
  ·rw [decide_eq_false e] at hS
   rw [decide_eq_false fun ee=>e (by subst ee;rfl)]
   repeat' ((conv=>whnf);first|exact trivial|refine qx hlt ?_|(refine nv_ (.agg (rL a[i])) (by first|exact g1|fail) ?_)|(refine nv_ (.agg (rL b[i])) (by first|exact g2|fail) ?_)|refine rD _ (hS) ?_|refine nT_ ?_|refine rb0 ?_|(refine And.intro (by first|exact b1|exact b2|exact rN _|fail) ?_)|refine aS ?_|fail)
 ·have hlt: ¬(i:Int)<(a.length:Int):=by omega
  rw [(wN hab).2 fun j h1 h2=>hp j h1 h2 (by omega)]
  repeat' ((conv=>whnf);first|exact trivial|refine qw hlt ?_|refine rb1 ?_|refine aS ?_|fail)
theorem Bu (a b:List RE) (hla:a.length<2^40) (hlb:b.length<2^40) (hka: ∀x∈a,kOk x) (hkb: ∀x∈b,kOk x):DCalls Tryz.prog 47 [esT a,esT b] (.bool (decide (a=b))):=by
 have h:=zJ a b hla hlb hka hkb
 refine qQ (rs:=[.tmp 4]) mixed Tryz.func47 Go.ST6.l47 rfl rfl rfl (r:=[.bool _]) (nlZ rfl) ?_
 repeat' ((conv=>whnf);first|exact trivial|refine rD _ (h) ?_|refine rbx ?_|fail)
theorem uE (a b:List RE) (_:a.length<2^40) (hlb:b.length<2^40) (hka: ∀x∈a,kOk x) (hkb: ∀x∈b,kOk x):DCalls Tryz.prog 13 [esT a,esT b] (.bool (decide (a=b))):=by
 have hn:((a.map rM).length:Int)=a.length:=by rw [List.length_map]
 have hm:((b.map rM).length:Int)=b.length:=by rw [List.length_map]
 refine qQ (rs:=[.tmp 4]) mixed Tryz.func13 Go.ST6.l13 rfl rfl rfl (r:=[.bool _]) (nlZ rfl) ?_
 by_cases hab:a.length=b.length
 case neg=>
  rw [decide_eq_false fun e=>hab (by rw [e])]
  have hne:((a.map rM).length:Int)≠((b.map rM).length:Int):=by omega
  repeat' ((conv=>whnf);first|exact trivial|refine qB hne ?_|refine rb0 ?_|refine aS ?_|fail)
 have heq:((a.map rM).length:Int)=((b.map rM).length:Int):=by omega
 repeat' ((conv=>whnf);first|refine qA heq ?_|refine aS ?_|fail)
 refine rm (α:=Nat) (fun i=>{sl:=[(0,.t (esT a)),(1,.t (esT b)),(5,.t (I i))],bx:=[]})
  (fun i=>i≤a.length∧ ∀j (h:j<a.length) (h':j<b.length),j<i→a[j]=b[j]) (fun i=>a.length - i) 0 ⟨Nat.zero_le _,fun j _ _ h=>by omega⟩ ?_ ?_
 ·repeat' (first|exact trivial|exact LeV.same _|exact rfl|exact fun _ _ _=>trivial|refine And.intro ?_ ?_)
 rintro i ⟨hi,hp⟩
 rcases Nat.lt_or_ge i a.length with h|h
 ·have h':i<b.length:=by omega
  have hlt:(i:Int)<((a.map rM).length:Int):=by omega
  have hnx:((i+1:Nat):Int)=IntKind.wrap .i64 ((i:Int)+1):=by rw [mQ] <;> omega
  have hK:=vB a[i].key b[i].key (hka _ (List.getElem_mem h)) (hkb _ (List.getElem_mem h'))
  have hga:=ggZ h
  have hgb:=ggZ h'
  have hz:=ta (a:=a[i].key) (b:=b[i].key)
  have hv:=eqS a[i].var b[i].var
  have hno: ¬a[i]=b[i]→decide (a=b)=false:=fun e=>decide_eq_false fun ee=>e (by subst ee;rfl)
  have hyes:a[i]=b[i]→ ∀j (h:j<a.length) (h':j<b.length),j<i+1→a[j]=b[j]:=fun e j h1 h2 h3=>by
   rcases Nat.lt_or_ge j i with h4|h4
   ·exact hp j h1 h2 h4
   ·obtain rfl:j=i:=by omega
    exact e
  have hmu:a.length - (i+1)<a.length - i:=by omega
  generalize a[i]=x at *
  generalize b[i]=y at *
  obtain ⟨xv,xk,xn,xa⟩:=x
  obtain ⟨yv,yk,yn,ya⟩:=y
  dsimp only at hK hz hv
  have hv2:(!(xv.toList==yv.toList))= !decide (xv=yv):=by rw [hv]
  clear hp hv
  generalize sd xk yk=c at *
  by_cases c1:xv=yv
  ·rw [decide_eq_true c1] at hv2
   by_cases c2:xn=yn
   ·by_cases c3:xa=ya
    ·by_cases c4:c=0
     ·have e:(⟨xv,xk,xn,xa⟩:RE)=⟨yv,yk,yn,ya⟩:=by rw [c1,c2,c3,hz.1 c4]
      have hp':=hyes e
      clear hyes hno
      repeat' ((conv=>whnf);first|refine qx hlt ?_|(refine nv_ (.str xv) (by first|(simp [hga,rM,rL,T.cells];done)|fail) ?_)|(refine nv_ (.str yv) (by first|(simp [hgb,rM,rL,T.cells];done)|fail) ?_)|refine nb_ _ hv2 ?_|(refine nv_ (I xn) (by first|(simp [hga,rM,rL,T.cells];done)|fail) ?_)|(refine nv_ (I yn) (by first|(simp [hgb,rM,rL,T.cells];done)|fail) ?_)|(refine nv_ (I xa) (by first|(simp [hga,rM,rL,T.cells];done)|fail) ?_)|(refine nv_ (I ya) (by first|(simp [hgb,rM,rL,T.cells];done)|fail) ?_)|(refine nv_ (.slice 1 (xk.map I)) (by first|(simp [hga,rM,rL,T.cells];done)|fail) ?_)|(refine nv_ (.slice 1 (yk.map I)) (by first|(simp [hgb,rM,rL,T.cells];done)|fail) ?_)|refine qA c2 ?_|refine qA c3 ?_|refine rD _ (hK) ?_|refine qA c4 ?_|(exact ⟨i+1,⟨h,hp'⟩,hmu,by (repeat' (first|(exact leI hnx)|exact trivial|exact LeV.same _|exact rfl|exact fun _ _ _=>trivial|refine And.intro ?_ ?_));done⟩)|refine nT_ ?_|(refine And.intro (by first|((simp [hga,rM,rL,T.cells]);done)|((simp [hgb,rM,rL,T.cells]);done)|fail) ?_)|refine aS ?_|fail)
     ·rw [hno fun e=>c4 (hz.2 (RE.mk.inj e).2.1)]
      clear hyes hno
      repeat' ((conv=>whnf);first|exact trivial|refine qx hlt ?_|(refine nv_ (.str xv) (by first|(simp [hga,rM,rL,T.cells];done)|fail) ?_)|(refine nv_ (.str yv) (by first|(simp [hgb,rM,rL,T.cells];done)|fail) ?_)|refine nb_ _ hv2 ?_|(refine nv_ (I xn) (by first|(simp [hga,rM,rL,T.cells];done)|fail) ?_)|(refine nv_ (I yn) (by first|(simp [hgb,rM,rL,T.cells];done)|fail) ?_)|(refine nv_ (I xa) (by first|(simp [hga,rM,rL,T.cells];done)|fail) ?_)|(refine nv_ (I ya) (by first|(simp [hgb,rM,rL,T.cells];done)|fail) ?_)|(refine nv_ (.slice 1 (xk.map I)) (by first|(simp [hga,rM,rL,T.cells];done)|fail) ?_)|(refine nv_ (.slice 1 (yk.map I)) (by first|(simp [hgb,rM,rL,T.cells];done)|fail) ?_)|refine qA c2 ?_|refine qA c3 ?_|refine rD _ (hK) ?_|refine qB c4 ?_|refine nT_ ?_|refine rb0 ?_|(refine And.intro (by first|((simp [hga,rM,rL,T.cells]);done)|((simp [hgb,rM,rL,T.cells]);done)|fail) ?_)|refine aS ?_|fail)
    ·rw [hno fun e=>c3 (RE.mk.inj e).2.2.2]
     clear hyes hno
     repeat' ((conv=>whnf);first|exact trivial|refine qx hlt ?_|(refine nv_ (.str xv) (by first|(simp [hga,rM,rL,T.cells];done)|fail) ?_)|(refine nv_ (.str yv) (by first|(simp [hgb,rM,rL,T.cells];done)|fail) ?_)|refine nb_ _ hv2 ?_|(refine nv_ (I xn) (by first|(simp [hga,rM,rL,T.cells];done)|fail) ?_)|(refine nv_ (I yn) (by first|(simp [hgb,rM,rL,T.cells];done)|fail) ?_)|(refine nv_ (I xa) (by first|(simp [hga,rM,rL,T.cells];done)|fail) ?_)|(refine nv_ (I ya) (by first|(simp [hgb,rM,rL,T.cells];done)|fail) ?_)|refine qA c2 ?_|refine qB c3 ?_|refine nT_ ?_|refine rb0 ?_|(refine And.intro (by first|((simp [hga,rM,rL,T.cells]);done)|((simp [hgb,rM,rL,T.cells]);done)|fail) ?_)|refine aS ?_|fail)
   ·rw [hno fun e=>c2 (RE.mk.inj e).2.2.1]
    clear hyes hno
    repeat' ((conv=>whnf);first|exact trivial|refine qx hlt ?_|(refine nv_ (.str xv) (by first|(simp [hga,rM,rL,T.cells];done)|fail) ?_)|(refine nv_ (.str yv) (by first|(simp [hgb,rM,rL,T.cells];done)|fail) ?_)|refine nb_ _ hv2 ?_|(refine nv_ (I xn) (by first|(simp [hga,rM,rL,T.cells];done)|fail) ?_)|(refine nv_ (I yn) (by first|(simp [hgb,rM,rL,T.cells];done)|fail) ?_)|refine qB c2 ?_|refine nT_ ?_|refine rb0 ?_|(refine And.intro (by first|((simp [hga,rM,rL,T.cells]);done)|((simp [hgb,rM,rL,T.cells]);done)|fail) ?_)|refine aS ?_|fail)
  ·rw [decide_eq_false c1] at hv2
   rw [hno fun e=>c1 (RE.mk.inj e).1]
   clear hyes hno
   repeat' ((conv=>whnf);first|exact trivial|refine qx hlt ?_|(refine nv_ (.str xv) (by first|(simp [hga,rM,rL,T.cells];done)|fail) ?_)|(refine nv_ (.str yv) (by first|(simp [hgb,rM,rL,T.cells];done)|fail) ?_)|refine nb_ _ hv2 ?_|refine nT_ ?_|refine rb0 ?_|(refine And.intro (by first|((simp [hga,rM,rL,T.cells]);done)|((simp [hgb,rM,rL,T.cells]);done)|fail) ?_)|refine aS ?_|fail)
 ·have hlt: ¬(i:Int)<((a.map rM).length:Int):=by omega
  rw [(wN hab).2 fun j h1 h2=>hp j h1 h2 (by omega)]
  repeat' ((conv=>whnf);first|exact trivial|refine qw hlt ?_|refine rb1 ?_|refine aS ?_|fail)
theorem wu (a:List RE) (hla:a.length<2^40) (hka: ∀x∈a,kOk x):DCalls Tryz.prog 24 [esT a] (.bool (sL a)):=by
 have hn:((a.map rM).length:Int)=a.length:=by rw [List.length_map]
 refine qQ (rs:=[.tmp 2]) mixed Tryz.func24 Go.ST6.l24 rfl rfl rfl (r:=[.bool _]) (nlZ rfl) ?_
 skip
 refine rm (α:=Nat) (fun j=>{sl:=[(0,.t (esT a)),(3,.t (I ((j+1:Nat):Int)))],bx:=[]})
  (fun j=>(j=0∨j+1≤a.length)∧ ∀k (h:k+1<a.length),k<j→rQ a[k] a[k+1]= -1) (fun j=>a.length - j) 0 ⟨Or.inl rfl,fun k _ h=>by omega⟩ ?_ ?_
 ·repeat' (first|exact trivial|exact LeV.same _|exact rfl|exact fun _ _ _=>trivial|refine And.intro ?_ ?_)
 rintro j ⟨hj,hp⟩
 rcases Nat.lt_or_ge (j+1) a.length with h|h
 ·have hlt:((j+1:Nat):Int)<((a.map rM).length:Int):=by omega
  have hnx:((j+1+1:Nat):Int)=IntKind.wrap .i64 (((j+1:Nat):Int)+1):=by rw [mQ] <;> omega
  have hj0:j<a.length:=by omega
  have hw:IntKind.wrap .i64 (((j+1:Nat):Int) - 1)=(j:Int):=by rw [mQ] <;> omega
  have hg0:(a.map rM)[(IntKind.wrap .i64 (((j+1:Nat):Int) - 1)).toNat]?.getD .nil= .agg (rL a[j]):=by
   rw [hw,Int.toNat_natCast,rU hj0]
  have hg1:(a.map rM)[((j+1:Nat):Int).toNat]?.getD .nil= .agg (rL a[j+1]):=by
   rw [Int.toNat_natCast,rU h]
  have hb0:0≤IntKind.wrap .i64 (((j+1:Nat):Int) - 1)∧IntKind.wrap .i64 (((j+1:Nat):Int) - 1)<((a.map rM).length:Int):=by rw [hw];omega
  have hb1:0≤((j+1:Nat):Int)∧((j+1:Nat):Int)<((a.map rM).length:Int):=by omega
  have hC:=uD a[j] a[j+1] (hka _ (List.getElem_mem hj0)) (hka _ (List.getElem_mem h))
  have hcr:=rO.r a[j] a[j+1]
  have hmu:a.length - (j+1)<a.length - j:=by omega
  by_cases hz:rQ a[j] a[j+1]≥0
  ·rw [vA ⟨j,h,by omega⟩]
   repeat' ((conv=>whnf);first|exact trivial|refine qx hlt ?_|(refine nv_ (.agg (rL a[j])) (by first|exact hg0|fail) ?_)|(refine nv_ (.agg (rL a[j+1])) (by first|exact hg1|fail) ?_)|refine rD _ (hC) ?_|refine qx hz ?_|refine nT_ ?_|refine rb0 ?_|(refine And.intro (by first|exact hb0|exact hb1|exact rN _|fail) ?_)|refine aS ?_|fail)
  ·have hp': ∀k (h:k+1<a.length),k<j+1→rQ a[k] a[k+1]= -1:=fun k hk hk2=>by
    rcases Nat.lt_or_ge k j with h3|h3
    ·exact hp k hk h3
    ·obtain rfl:k=j:=by omega
     omega
   repeat' ((conv=>whnf);first|refine qx hlt ?_|(refine nv_ (.agg (rL a[j])) (by first|exact hg0|fail) ?_)|(refine nv_ (.agg (rL a[j+1])) (by first|exact hg1|fail) ?_)|refine rD _ (hC) ?_|refine qw hz ?_|(exact ⟨j+1,⟨Or.inr h,hp'⟩,hmu,by (repeat' (first|(exact leI hnx)|exact trivial|exact LeV.same _|exact rfl|exact fun _ _ _=>trivial|refine And.intro ?_ ?_));done⟩)|refine nT_ ?_|(refine And.intro (by first|exact hb0|exact hb1|exact rN _|fail) ?_)|refine aS ?_|fail)
 ·have hlt: ¬((j+1:Nat):Int)<((a.map rM).length:Int):=by omega
  rw [wo fun k hk=>hp k hk (by omega)]
  repeat' ((conv=>whnf);first|exact trivial|refine qw hlt ?_|refine rb1 ?_|refine aS ?_|fail)
def tY (xs:List Int):Bool:=decide (xs.length=10)&&(List.range xs.length).all fun i=>decide (xs.getD i 0=min ((i:Int)+1) 7)
theorem w9 (xs:List Int) (hl:xs.length<2^40):DCalls Tryz.prog 44 [.slice 1 (xs.map I)] (.bool (tY xs)):=by
 have hn:((xs.map I).length:Int)=xs.length:=by rw [List.length_map]
 refine qQ (rs:=[.tmp 2]) mixed Tryz.func44 Go.ST6.l44 rfl rfl rfl (r:=[.bool _]) (nlZ rfl) ?_
 skip
 refine qY 0 (α:=Nat) (β:=Unit) (fun i=>{sl:=[(0,.t (.slice 1 (xs.map I))),(3,.t (I i))],bx:=[]})
  (fun i=>i≤xs.length∧ ∀j,j<i→xs.getD j 0=min ((j:Int)+1) 7) (fun i=>xs.length - i) (fun _=>{sl:=[(0,.t (.slice 1 (xs.map I)))],bx:=[]}) (fun _=> ∀j,j<xs.length→xs.getD j 0=min ((j:Int)+1) 7) 0 ⟨Nat.zero_le _,fun j h=>by omega⟩ ?_ ?_ ?_
 ·repeat' (first|exact trivial|exact LeV.same _|exact rfl|exact fun _ _ _=>trivial|refine And.intro ?_ ?_)
 ·rintro i ⟨hi,hp⟩
  rcases Nat.lt_or_ge i xs.length with h|h
  ·have hlt:(i:Int)<((xs.map I).length:Int):=by omega
   have hnx:((i+1:Nat):Int)=IntKind.wrap .i64 ((i:Int)+1):=by rw [mQ] <;> omega
   have hg:(xs.map I)[((i:Int)).toNat]?.getD .nil=I xs[i]:=by simp [h]
   have hgd:xs.getD i 0=xs[i]:=by simp [h]
   have hmn:(if (7:Int)<IntKind.wrap .i64 ((i:Int)+1) then 7 else IntKind.wrap .i64 ((i:Int)+1))=min ((i:Int)+1) 7:=by rw [mQ (by omega) (by omega)];split <;> omega
   have hmu:xs.length - (i+1)<xs.length - i:=by omega
   by_cases c:xs[i]=(if (7:Int)<IntKind.wrap .i64 ((i:Int)+1) then 7 else IntKind.wrap .i64 ((i:Int)+1))
   ·have hp': ∀j,j<i+1→xs.getD j 0=min ((j:Int)+1) 7:=fun j hj=>by
     rcases Nat.lt_or_ge j i with h4|h4
     ·exact hp j h4
     ·obtain rfl:j=i:=by omega
      rw [hgd,c,hmn]
    repeat' ((conv=>whnf);first|refine qx hlt ?_|(refine nv_ (I xs[i]) (by first|exact hg|fail) ?_)|refine qA c ?_|(exact ⟨i+1,⟨h,hp'⟩,hmu,by (repeat' (first|(exact leI hnx)|exact trivial|exact LeV.same _|exact rfl|exact fun _ _ _=>trivial|refine And.intro ?_ ?_));done⟩)|refine nT_ ?_|refine aS ?_|fail)
   ·have hf:tY xs=false:=by
     unfold tY
     rw [Bool.and_eq_false_iff]
     refine Or.inr ?_
     rw [List.all_eq_false]
     refine ⟨i,List.mem_range.2 h,?_⟩
     rw [hgd, ←hmn]
     simpa using c
    rw [hf]
    repeat' ((conv=>whnf);first|exact trivial|refine qx hlt ?_|(refine nv_ (I xs[i]) (by first|exact hg|fail) ?_)|refine qB c ?_|refine nT_ ?_|refine rb0 ?_|refine aS ?_|fail)
  ·have hlt: ¬(i:Int)<((xs.map I).length:Int):=by omega
   have hp2: ∀j,j<xs.length→xs.getD j 0=min ((j:Int)+1) 7:=fun j hj=>hp j (by omega)
   repeat' ((conv=>whnf);first|refine qw hlt ?_|(exact ⟨(),hp2,by (repeat' (first|exact trivial|exact LeV.same _|exact rfl|exact fun _ _ _=>trivial|refine And.intro ?_ ?_));done⟩)|refine aS ?_|fail)
 ·rintro - hp
  have hall:((List.range xs.length).all fun i=>decide (xs.getD i 0=min ((i:Int)+1) 7))=true:=by
   rw [List.all_eq_true]
   intro j hj
   exact decide_eq_true (hp j (List.mem_range.1 hj))
  unfold tY
  rw [hall,Bool.and_true]
  by_cases c:xs.length=10
  ·have hc:((xs.map I).length:Int)=10:=by omega
   rw [decide_eq_true c]
   repeat' ((conv=>whnf);first|exact trivial|refine qz hc ?_|refine rb1 ?_|refine aS ?_|fail)
  ·have hc: ¬((xs.map I).length:Int)=10:=by omega
   rw [decide_eq_false c]
   repeat' ((conv=>whnf);first|exact trivial|refine qy hc ?_|refine rb0 ?_|refine aS ?_|fail)
end Go.ST
end
section
end
section
namespace Go.RC
open Go Go.DL Go.Proofs
theorem mixed:Tryz.prog.follows .mixedOrders=true:=by kernel_rfl
abbrev I (n:Int):T:=.int .i64 n
abbrev Y (n:Int):T:=.int .u8 n
abbrev Q (n:Int):T:=.int .u64 n
theorem w8 {n:Int} (h0:0≤n) (h1:n<256):IntKind.wrap .u8 n=n:=by
 unfold IntKind.wrap;simp [IntKind.bits,IntKind.signed];omega
theorem w64 {n:Int} (h0:0≤n) (h1:n<18446744073709551616):IntKind.wrap .u64 n=n:=by
 unfold IntKind.wrap;simp [IntKind.bits,IntKind.signed];omega
end Go.RC
end
section
namespace Go.RC
open Go Go.DL Go.Proofs
theorem or_comm (k:IntKind) (a b:Int):iw .or k a b=iw .or k b a:=by
 unfold iw
 simp only [BitVec.or_comm]
end Go.RC
end
section
end
section
end
section
end
section
end
section
namespace Go.RC
open Go Go.DL Go.Proofs
def se (bs:List Int):Prop:= ∀b∈bs,0≤b∧b<256
end Go.RC
end
section
namespace Go.RC
open Go Go.DL Go.Proofs
def sB (x:ByteArray):List Int:=x.data.toList.map fun b=>(b.toNat:Int)
theorem vU (x:ByteArray):bR x=(sB x).map Y:=by
 unfold bR sB
 rw [List.map_map];rfl
theorem uF (x:ByteArray):(sB x).length=x.size:=by
 unfold sB
 rw [List.length_map,Array.length_toList]
 rfl
theorem vQ (x:ByteArray):se (sB x):=fun b hb=>by
 obtain ⟨u,_,rfl⟩:=List.mem_map.1 hb
 have:=u.toNat_lt
 omega
end Go.RC
end
section
namespace Go.RC
open Go Go.DL Go.Proofs
theorem xG (l:List Int) (h:se l):sB (nu (l.map Y))=l:=by
 unfold sB nu
 simp only [List.map_map]
 refine (List.map_congr_left (g:=id) fun b hb=>?_).trans (List.map_id l)
 obtain ⟨h0,h1⟩:=h b hb
 show (((UInt8.ofNat b.toNat).toNat:Nat):Int)=b
 rw [UInt8.toNat_ofNat',Nat.mod_eq_of_lt (by omega)]
 omega
end Go.RC
end
noncomputable section
namespace Go.RC
open Go Go.DL Go.Proofs
def c99:bc:=(.seq (.region [oo 2 (.mov (.const .nil))] []) (.seq (.region [mv 5 0,oo 6 (.conv .u64 (tm 5)),oo 7 (.bin .shl (tm 6) (.const (.int .u64 1))),mv 8 0,oo 9 (.bin .shr (tm 8) (.const (.int .u64 63))),oo 10 (.conv .u64 (tm 9)),oo 11 (.bin .xor (tm 7) (tm 10)),mv 3 11] []) (.seq (.region [oo 4 (.mov (.const .nil))] []) (.seq (.block 0 (.loop (.seq (.seq (.region [mv 12 3,oo 13 (.bin .gtr (tm 12) (.const (.int .u64 127)))] []) (.cond (tm 13) .skip (.exit 0))) (.seq (.block 1 (.region [mv 16 4,mv 17 3,oo 18 (.conv .u8 (tm 17)),oo 19 (.bin .or (tm 18) (.const (Ui 128))),oo 20 (.buildF 1 1 [(Ui 0)] [(0,(tm 19))]),oo 21 (.append 98 5 1 1 (tm 16) (tm 20)),mv 4 21] [])) (.region [mv 14 3,oo 15 (.bin .shr (tm 14) (.const (.int .u64 7))),mv 3 15] []))))) (.seq (.region [mv 22 4,mv 23 3,oo 24 (.conv .u8 (tm 23)),oo 25 (.buildF 1 1 [(Ui 0)] [(0,(tm 24))]),oo 26 (.append 98 5 1 1 (tm 22) (tm 25)),mv 2 26] []) .ret)))))
theorem l99:(Tryz.f99.body.bind (bp Tryz.prog 27 [8000020,8000025]))=some c99:=by kernel_rfl
def Cj:bc:=(.seq (.region [oo 2 (.mov (.const .nil))] []) (.seq (.region [mv 3 0,oo 4 (.lenS (tm 3)),oo 5 (.inl 99 [tm 4]),mv 6 0,oo 7 (.append 98 5 1 1 (tm 5) (tm 6)),mv 2 7] []) .ret))
theorem CM:(Tryz.f101.body.bind (bp Tryz.prog 8 [99]))=some Cj:=by kernel_rfl
def CC:bc:=(.seq (.region [oo 4 (.mov (.const .nil))] []) (.seq (.region [mv 8 0,ln 9 8,oo 10 (.inl 99 [tm 9]),mv 5 10] []) (.seq (.seq (.region [mv 11 0,ln 12 11,oo 13 (.mov (Kc 0))] []) (.block 0 (.loop (.seq (.region [oo 14 (.bin .lss (tm 13) (tm 12))] []) (.seq (.cond (tm 14) .skip (.exit 0)) (.seq (.block 1 (.seq (.region [ix 15 1 11 13,ld 16 15,mv 7 16] []) (.region [mv 17 5,mv 18 1,mv 19 7,oo 20 (.bS (tm 18) [tm 19]),oo 21 (.append 98 5 1 1 (tm 17) (tm 20)),mv 5 21] []))) (.region [oo 22 (.bin .add (tm 13) (Kc 1)),mv 13 22] []))))))) (.seq (.region [mv 23 5,mv 4 23] []) .ret))))
theorem C3:(Tryz.f138.body.bind (bp Tryz.prog 24 [99]))=some CC:=by kernel_rfl
def Ck:bc:=(.seq (.region [oo 2 (.mov (.const .nil))] []) (.seq (.region [mv 3 0,oo 4 (.inl 138 [(tm 3),(.const (.clos 99 []))]),mv 2 4] []) .ret))
theorem CN:(Tryz.f102.body.bind (bp Tryz.prog 5 [138]))=some Ck:=by kernel_rfl
def c96:bc:=(.seq (.region [oo 2 (.mov (Kc 0)),oo 3 (.mov (Kc 0)),oo 4 (.mov (Kc 0))] []) (.seq (.region [oo 5 (.mov (.const (.int .u64 0)))] []) (.seq (.region [oo 6 (.mov (Kc 0))] []) (.seq .skip (.seq (.seq (.region [mv 9 0,ln 10 9,oo 11 (.mov (Kc 0))] []) (.block 0 (.loop (.seq (.region [oo 12 (.bin .lss (tm 11) (tm 10))] []) (.seq (.cond (tm 12) .skip (.exit 0)) (.seq (.block 1 (.seq (.region [mv 13 11,ix 14 1 9 11,ld 15 14,mv 7 13,mv 8 15] []) (.seq (.block 2 (.seq (.seq (.region [mv 25 7,oo 26 (.bin .eql (tm 25) (Kc 9)),mv 27 26,mT 28 8 27,oT 29 27 (.bin .gtr (tm 28) (.const (Ui 1))),oo 30 (.pick (tm 27) (tm 29) kF),mv 24 30] []) (.cond (tm 24) .skip (.region [mv 31 7,oo 32 (.bin .gtr (tm 31) (Kc 0)),mv 33 32,mT 34 8 33,oT 35 33 (.bin .eql (tm 34) (.const (Ui 0))),oo 36 (.pick (tm 33) (tm 35) kF),mv 24 36] []))) (.cond (tm 24) (.seq (.region [oo 2 (.mov (Kc 0)),oo 3 (.mov (Kc 0)),oo 4 (.mov (Kc 6))] []) .ret) (.region [mv 16 5,mv 17 8,oo 18 (.bin .and (tm 17) (.const (Ui 127))),oo 19 (.conv .u64 (tm 18)),mv 20 7,oo 21 (.bin .mul (Kc 7) (tm 20)),oo 22 (.bin .shl (tm 19) (tm 21)),oo 23 (.bin .or (tm 16) (tm 22)),mv 5 23] [])))) (.seq (.region [mv 37 8,oo 38 (.bin .lss (tm 37) (.const (Ui 128)))] []) (.cond (tm 38) (.seq (.region [mv 39 7,oo 40 (.bin .add (tm 39) (Kc 1)),mv 6 40] []) (.exit 0)) .skip))))) (.region [oo 41 (.bin .add (tm 11) (Kc 1)),mv 11 41] []))))))) (.seq (.seq (.region [mv 42 6,oo 43 (.bin .eql (tm 42) (Kc 0))] []) (.cond (tm 43) (.seq (.region [oo 2 (.mov (Kc 0)),oo 3 (.mov (Kc 0)),oo 4 (.mov (Kc 5))] []) .ret) .skip)) (.seq (.region [mv 44 5,oo 45 (.bin .shr (tm 44) (.const (.int .u64 1))),oo 46 (.conv .i64 (tm 45)),mv 47 5,oo 48 (.bin .and (tm 47) (.const (.int .u64 1))),oo 49 (.conv .i64 (tm 48)),oo 50 (.neg (tm 49)),oo 51 (.bin .xor (tm 46) (tm 50)),mv 52 6,mv 2 51,mv 3 52,oo 4 (.mov (Kc 0))] []) .ret)))))))
theorem l96:(Tryz.f96.body.bind (bp Tryz.prog 53 []))=some c96:=by kernel_rfl
def CA:bc:=(.seq (.region [oo 4 (.mov (Kc 0)),oo 5 (.mov (Kc 0)),oo 6 (.mov (Kc 0))] []) (.seq (.region [mv 11 0,oo 12 (.call 96 [tm 11]),mv 10 12,oo 13 (.ext (tm 10) 0),oo 14 (.ext (tm 10) 1),oo 15 (.ext (tm 10) 2),mv 7 13,mv 8 14,mv 9 15] []) (.seq (.block 0 (.seq (.region [mv 17 9,oo 18 (.bin .neq (tm 17) (Kc 0)),mv 16 18] []) (.cond (tm 16) (.seq (.region [mv 19 9,oo 4 (.mov (Kc 0)),oo 5 (.mov (Kc 0)),mv 6 19] []) .ret) (.seq (.region [mv 21 7,oo 22 (.bin .lss (tm 21) (Kc 0)),mv 20 22] []) (.cond (tm 20) (.seq (.region [oo 4 (.mov (Kc 0)),oo 5 (.mov (Kc 0)),oo 6 (.mov (Kc 6))] []) .ret) (.seq (.region [mv 24 7,mv 25 0,ln 26 25,mv 27 8,oo 28 (.bin .sub (tm 26) (tm 27)),mv 29 1,oo 30 (.bin .quo (tm 28) (tm 29)),oo 31 (.bin .gtr (tm 24) (tm 30)),mv 23 31] []) (.cond (tm 23) (.seq (.region [oo 4 (.mov (Kc 0)),oo 5 (.mov (Kc 0)),oo 6 (.mov (Kc 5))] []) .ret) .skip))))))) (.seq (.region [mv 32 7,mv 33 8,mv 4 32,mv 5 33,oo 6 (.mov (Kc 0))] []) .ret))))
theorem C1:(Tryz.f135.body.bind (bp Tryz.prog 34 []))=some CA:=by kernel_rfl
def CB:bc:=(.seq (.region [oo 6 (.mov (.const .nil)),oo 7 (.mov (Kc 0)),oo 8 (.mov (Kc 0))] []) (.seq (.region [mv 17 0,mv 18 1,oo 19 (.call 135 [(tm 17),(tm 18)]),mv 16 19,oo 20 (.ext (tm 16) 0),oo 21 (.ext (tm 16) 1),oo 22 (.ext (tm 16) 2),mv 9 20,mv 10 21,mv 11 22] []) (.seq (.seq (.region [mv 23 11,oo 24 (.bin .neq (tm 23) (Kc 0))] []) (.cond (tm 24) (.seq (.region [mv 25 11,oo 6 (.mov (.const .nil)),oo 7 (.mov (Kc 0)),mv 8 25] []) .ret) .skip)) (.seq (.region [oo 12 (.mov (.const .nil))] []) (.seq (.seq (.region [mv 26 9,oo 27 (.mov (Kc 0))] []) (.block 0 (.loop (.seq (.region [oo 28 (.bin .lss (tm 27) (tm 26))] []) (.seq (.cond (tm 28) .skip (.exit 0)) (.seq (.block 1 (.seq (.region [mv 30 2,mv 31 0,mv 32 10,oo 33 (.slice 1 (tm 31) (some (tm 32)) none),oo 34 (.bS (tm 30) [tm 33]),mv 29 34,oo 35 (.ext (tm 29) 0),oo 36 (.ext (tm 29) 1),oo 37 (.ext (tm 29) 2),mv 13 35,mv 14 36,mv 15 37] []) (.seq (.seq (.region [mv 38 15,oo 39 (.bin .neq (tm 38) (Kc 0))] []) (.cond (tm 39) (.seq (.region [mv 40 15,oo 6 (.mov (.const .nil)),oo 7 (.mov (Kc 0)),mv 8 40] []) .ret) .skip)) (.region [mv 41 12,mv 42 13,oo 43 (.buildF 1 1 [Z0] [(0,(tm 42))]),oo 44 (.append 59 3 1 8 (tm 41) (tm 43)),mv 45 10,mv 46 14,oo 47 (.bin .add (tm 45) (tm 46)),mv 12 44,mv 10 47] [])))) (.region [oo 48 (.bin .add (tm 27) (Kc 1)),mv 27 48] []))))))) (.seq (.region [mv 49 12,mv 50 10,mv 6 49,mv 7 50,oo 8 (.mov (Kc 0))] []) .ret))))))
theorem C2:(Tryz.f136.body.bind (bp Tryz.prog 51 [8000043]))=some CB:=by kernel_rfl
def c98:bc:=(.seq (.region [oo 2 (.mov (.const .nil)),oo 3 (.mov (Kc 0)),oo 4 (.mov (Kc 0))] []) (.seq (.region [mv 5 0,oo 6 (.call 136 [(tm 5),(Kc 1),(.const (.clos 96 []))]),oo 7 (.ext (tm 6) 0),oo 8 (.ext (tm 6) 1),oo 9 (.ext (tm 6) 2),mv 2 7,mv 3 8,mv 4 9] []) .ret))
theorem l98:(Tryz.f98.body.bind (bp Tryz.prog 10 []))=some c98:=by kernel_rfl
end Go.RC
end
section
namespace Go.RC
open Go Go.DL Go.Proofs
def vb (z:Nat):List Int:=if h:z<128 then [(z:Int)] else ((z % 128+128:Nat):Int)::vb (z / 128)
termination_by z
decreasing_by omega
theorem tU {z:Nat} (h:z<128):vb z=[(z:Int)]:=by rw [vb,dif_pos h]
theorem uu {z:Nat} (h: ¬z<128):vb z=((z % 128+128:Nat):Int)::vb (z / 128):=by rw [vb,dif_neg h]
theorem A1 (z:Nat):se (vb z):=by
 induction z using Nat.strongRecOn with
 |ind z ih=>
  intro b hb
  by_cases h:z<128
  ·rw [tU h] at hb
   rw [List.mem_singleton.1 hb];omega
  ·rw [uu h] at hb
   rcases List.mem_cons.1 hb with rfl|hb
   ·omega
   ·exact ih (z / 128) (by omega) b hb
theorem zc: ∀(k z:Nat),z<128^(k+1)→(vb z).length≤k+1
 |0,z,h=>by rw [tU (by simpa using h)];simp
 |k+1,z,h=>by
  by_cases h1:z<128
  ·rw [tU h1];simp
  ·rw [uu h1,List.length_cons]
   have:=zc k (z / 128) (Nat.div_lt_of_lt_mul (by rw [← Nat.pow_succ'];exact h))
   omega
def zz (n:Int):Nat:=if 0≤n then (2 * n).toNat else (2 * (-1 - n)+1).toNat
def i64 (n:Int):Prop:= -9223372036854775808≤n∧n<9223372036854775808
theorem yt {n:Int} (h:i64 n):zz n<18446744073709551616:=by
 unfold zz;obtain ⟨h1,h2⟩:=h;split <;> omega
def vi (n:Int):List Int:=vb (zz n)
theorem tI (n:Int):se (vi n):=A1 _
theorem uH {n:Int} (h:i64 n):(vi n).length≤10:=zc 9 _ (Nat.lt_of_lt_of_le (yt h) (by decide))
theorem zS {a:Int} (h0:0≤a) (h1:a<18446744073709551616):iw .xor .u64 a 18446744073709551615=18446744073709551615 - a:=by
 obtain ⟨a,rfl⟩:=Int.eq_ofNat_of_zero_le h0
 have ha:a<2^64:=by omega
 have e1:(BitVec.ofInt 64 18446744073709551615)=BitVec.allOnes 64:=by decide
 have e2:(BitVec.ofInt 64 ((a:Nat):Int)).toNat=a:=by
  rw [BitVec.ofInt_natCast,BitVec.toNat_ofNat,Nat.mod_eq_of_lt ha]
 show IntKind.u64.wrap ((BitVec.ofInt 64 ((a:Nat):Int) ^^^ BitVec.ofInt 64 18446744073709551615).toNat:Int)=_
 rw [e1,BitVec.xor_allOnes,BitVec.toNat_not,e2,w64 (by omega) (by omega)]
 omega
theorem xor_zero {a:Int} (h0:0≤a) (h1:a<18446744073709551616):iw .xor .u64 a 0=a:=by
 obtain ⟨a,rfl⟩:=Int.eq_ofNat_of_zero_le h0
 have ha:a<2^64:=by omega
 have e2:(BitVec.ofInt 64 ((a:Nat):Int)).toNat=a:=by
  rw [BitVec.ofInt_natCast,BitVec.toNat_ofNat,Nat.mod_eq_of_lt ha]
 show IntKind.u64.wrap ((BitVec.ofInt 64 ((a:Nat):Int) ^^^ BitVec.ofInt 64 0).toNat:Int)=_
 rw [show BitVec.ofInt 64 0=0#64 from rfl,BitVec.xor_zero,e2,w64 (by omega) (by omega)]
theorem uQ (n:Int):IntKind.u64.wrap n=n % 18446744073709551616:=by
 unfold IntKind.wrap
 simp [IntKind.bits,IntKind.signed]
theorem zig {n:Int} (h:i64 n):iw .xor .u64 (IntKind.u64.wrap (IntKind.u64.wrap n * 2^1)) (IntKind.u64.wrap (n.fdiv (2^63)))=zz n:=by
 obtain ⟨h1,h2⟩:=h
 unfold zz
 rw [show (2:Int)^1=2 from rfl,show (2:Int)^63=9223372036854775808 from rfl]
 rw [Int.fdiv_eq_ediv_of_nonneg _ (by decide)]
 by_cases h0:0≤n
 ·rw [if_pos h0,show n / 9223372036854775808=0 by omega,w64 (n:=n) h0 (by omega),w64 (n:=n * 2) (by omega) (by omega),w64 (n:=0) (by omega) (by omega),xor_zero (by omega) (by omega)]
  omega
 ·rw [if_neg h0,show n / 9223372036854775808= -1 by omega]
  rw [show IntKind.u64.wrap (-1)=18446744073709551615 from rfl,zS (by rw [uQ];omega) (by rw [uQ];omega),uQ,uQ]
  omega
theorem BU: ∀b:Fin 256,iw .or .u8 (b.val:Int) 128=((b.val % 128+128:Nat):Int):=by decide+kernel
theorem A7 (z:Nat):iw .or .u8 (IntKind.u8.wrap (z:Int)) 128=((z % 128+128:Nat):Int):=by
 have e:IntKind.u8.wrap (z:Int)=((z % 256:Nat):Int):=by
  unfold IntKind.wrap
  simp [IntKind.bits,IntKind.signed]
 have:=BU ⟨z % 256,Nat.mod_lt _ (by decide)⟩
 dsimp only at this
 rw [e,this]
 omega
theorem flY (xs:List Int): ∀t∈(xs.map Y).flatMap T.cells,t.flat=true:=fun t ht=>by
 obtain ⟨x,hx,ht⟩:=List.mem_flatMap.1 ht
 obtain ⟨n,_,rfl⟩:=List.mem_map.1 hx
 rw [List.mem_singleton.1 ht];rfl
theorem vj (n:Int) (h:i64 n):cW Tryz.prog 99 [I n] 5 1 ((vi n).map Y) []:=by
 refine qT (rs:=[.tmp 2]) mixed Tryz.func99 l99 rfl rfl rfl (nlZ rfl) ?_
 have hz:=yt h
 have hl:=uH h
 have hzig:=zig h
 unfold vi at hl ⊢
 generalize zz n=z0 at hz hl hzig
 repeat' ((conv=>whnf);first|refine aS ?_|fail)
 refine qY 0 (α:=Nat×Nat×List Int) (β:=Nat×Nat×List Int) (fun q=>{sl:=[(3,.t (Q q.2.1)),(4,.own q.1 5 1 (q.2.2.map Y))],bx:=[]})
  (fun q=>q.2.1<18446744073709551616∧q.2.2++vb q.2.1=vb z0) (fun q=>q.2.1) (fun q=>{sl:=[(3,.t (Q q.2.1)),(4,.own q.1 5 1 (q.2.2.map Y))],bx:=[]}) (fun q=>q.2.1<128∧q.2.2++vb q.2.1=vb z0) (21,z0,[]) (by dsimp only;exact ⟨hz,rfl⟩) ?_ ?_ ?_
 ·repeat' (first|((refine leT (congrArg Q ?_);rw [← hzig];rfl))|exact trivial|exact rfl|exact fun _ _ _=>trivial|exact LeV.nil _ _ _|refine And.intro ?_ ?_)
 ·rintro ⟨q,z,out⟩ ⟨h1,h2⟩
  dsimp only at h1 h2
  rcases Nat.lt_or_ge z 128 with h|h
  ·repeat' ((conv=>whnf);first|refine aD0 ?_|refine aS ?_|fail)
   exact ⟨(q,z,out),⟨h,h2⟩,by repeat' (first|exact trivial|exact LeV.same _|exact rfl|exact fun _ _ _=>trivial|refine And.intro ?_ ?_)⟩
  ·have e:=uu (z:=z) (by omega)
   rw [e] at h2
   have hol:=congrArg List.length h2
   rw [List.length_append,List.length_cons] at hol
   have hdiv:(z:Int).fdiv (2^7)=(z / 128:Nat):=by
    rw [Int.fdiv_eq_ediv_of_nonneg _ (by decide)];rfl
   repeat' ((conv=>whnf);first|refine aD1 ?_|(refine And.intro (by first|((simp;omega);done)|fail) ?_)|refine aS ?_|fail)
   refine ⟨(21,z / 128,out++[((z % 128+128:Nat):Int)]),⟨by dsimp only;omega,by simpa using h2⟩,by dsimp only;omega,?_⟩
   repeat' (first|((refine leT (congrArg Q ?_);exact hdiv.symm))|exact trivial|exact rfl|exact fun _ _ _=>trivial|refine rH ?_|refine And.intro ?_ ?_)
   rw [List.map_append,List.map_singleton, ←A7]
   rfl
 rintro ⟨q,z,out⟩ ⟨h1,h2⟩
 dsimp only at h1 h2
 rw [tU h1] at h2
 have hol:=congrArg List.length h2
 rw [List.length_append,List.length_singleton] at hol
 have e1:IntKind.u8.wrap (z:Int)=z:=w8 (by omega) (by omega)
 rw [← h2]
 repeat' ((conv=>whnf);first|(refine And.intro (by first|exact flY _|((simp;omega);done)|fail) ?_)|refine aS ?_|fail)
 refine ⟨_,rfl,.inl ⟨26,congrArg (V.own 26 5 1) ?_⟩⟩
 dsimp only
 rw [e1,List.map_append]
 rfl
end Go.RC
end
section
namespace Go.RC
open Go Go.DL Go.Proofs
def vs (s:ByteArray):List Int:=vi s.size++sB s
theorem sW {n:Nat} (h:n<2^62):i64 (n:Int):=by unfold i64;omega
theorem xA (s:ByteArray) (h:s.size<2^40):cW Tryz.prog 101 [.str s] 5 1 ((vs s).map Y) []:=by
 refine qT (rs:=[.tmp 2]) mixed Tryz.func101 CM rfl rfl rfl (nlZ rfl) ?_
 have hi:=sW (n:=s.size) (by omega)
 have hl:=uH hi
 have hb:(bR s).length=s.size:=by rw [vU,List.length_map,uF]
 repeat' ((conv=>whnf);first|refine rA rfl (vj s.size hi) ?_|(refine And.intro (by first|exact flY _|((simp [hb];omega);done)|fail) ?_)|refine aS ?_|fail)
 refine ⟨_,rfl,.inl ⟨7,congrArg (V.own 7 5 1) ?_⟩⟩
 unfold vs
 rw [List.map_append,vU]
def vis (l:List Int):List Int:=vi l.length++l.flatMap vi
theorem yA {α:Type} (f:α→List Int) {l:List α} {i:Nat} (h:i<l.length):(l.take (i+1)).flatMap f=(l.take i).flatMap f++f l[i]:=by
 rw [List.take_succ_eq_append_getElem h,List.flatMap_append];simp
theorem xB {α:Type} (f:α→List Int) (k:Nat): ∀{l:List α},(∀ x∈l,(f x).length≤k)→(l.flatMap f).length≤k * l.length
 |[],_=>by simp
 |x::l,h=>by
  have h1:=xB f k (l:=l) (fun y hy=>h y (by simp [hy]))
  have h2:=h x (by simp)
  rw [List.flatMap_cons,List.length_append,List.length_cons,Nat.mul_add]
  omega
theorem Ba (l:List Int) (h:l.length<2^40) (hi: ∀x∈l,i64 x):cW Tryz.prog 138 [.slice 1 (l.map I),.clos 99 []] 5 1 ((vis l).map Y) []:=by
 refine qT (rs:=[.tmp 4]) mixed Tryz.func138 C3 rfl rfl rfl (nlZ rfl) ?_
 have h0:=sW (n:=l.length) (by omega)
 have hl0:=uH h0
 repeat' ((conv=>whnf);first|(refine rA (ts:=[I l.length]) (by simp;rfl) (vj l.length h0) ?_)|fail)
 refine qY 0 (α:=Nat×Nat) (β:=Nat) (fun q=>{sl:=[(1,.t (.clos 99 [])),(5,.own q.1 5 1 ((vi l.length++(l.take q.2).flatMap vi).map Y)),(11,.t (.slice 1 (l.map I))),(12,.t (I l.length)),(13,.t (I q.2))],bx:=[]})
  (fun q=>q.2≤l.length) (fun q=>l.length - q.2) (fun q=>{sl:=[(5,.own q 5 1 ((vis l).map Y))],bx:=[]}) (fun _=>True) (10,0) (by simp) ?_ ?_ ?_
 ·repeat' (first|((refine leI ?_;simp;done))|exact trivial|exact LeV.same _|exact rfl|exact fun _ _ _=>trivial|refine rH ?_|refine And.intro ?_ ?_)
  simp
 ·rintro ⟨q,i⟩ hq
  dsimp only at hq
  rcases Nat.lt_or_ge i l.length with h1|h1
  ·have hx:=hi l[i] (List.getElem_mem h1)
   have hxl:=uH hx
   have hfl:=xB vi 10 (l:=l.take i) (fun x hx=>uH (hi x (List.mem_of_mem_take hx)))
   rw [List.length_take] at hfl
   repeat' ((conv=>whnf);first|(refine nv_ (I l[i]) (by first|((simp [h1]);done)|fail) ?_)|refine rD _ ((vj l[i] hx).rC) ?_|refine nT_ ?_|refine aD1 ?_|(refine And.intro (by first|((simp;omega);done)|((simp only [List.length_map,List.length_append];omega);done)|fail) ?_)|refine aS ?_|fail)
   refine ⟨(21,i+1),by dsimp only;omega,by dsimp only;omega,?_⟩
   repeat' (first|exact trivial|exact LeV.same _|exact rfl|exact fun _ _ _=>trivial|exact lI|refine rH ?_|refine And.intro ?_ ?_)
   rw [yA vi h1]
   simp
  ·have:i=l.length:=by omega
   subst this
   repeat' ((conv=>whnf);first|refine aD0 ?_|refine aS ?_|fail)
   exact ⟨q,trivial,by repeat' (first|((refine rH ?_;rw [List.take_length];rfl))|exact trivial|exact rfl|exact fun _ _ _=>trivial|refine And.intro ?_ ?_)⟩
 rintro q -
 repeat' ((conv=>whnf);first|(refine And.intro (by first|exact flY _|fail) ?_)|refine aS ?_|fail)
 exact ⟨_,rfl,.inl ⟨q,rfl⟩⟩
theorem wO (l:List Int) (h:l.length<2^40) (hi: ∀x∈l,i64 x):cW Tryz.prog 102 [.slice 1 (l.map I)] 5 1 ((vis l).map Y) []:=by
 refine qT (rs:=[.tmp 2]) mixed Tryz.func102 CN rfl rfl rfl (nlZ rfl) ?_
 repeat' ((conv=>whnf);first|refine rA rfl (Ba l h hi) ?_|(refine And.intro (by first|exact flY _|fail) ?_)|refine aS ?_|fail)
 exact ⟨_,rfl,.inl ⟨_,rfl⟩⟩
theorem xK (s:ByteArray):se (vs s):=fun b hb=>by
 rcases List.mem_append.1 hb with h|h
 ·exact tI _ b h
 ·exact vQ _ b h
end Go.RC
end
section
end
section
end
section
end
section
end
section
end
section
end
section
end
section
end
section
end
section
end
section
end
section
end
section
end
section
namespace Go.RC
open Go Go.DL Go.Proofs
def un (z:Int):Int:=if z % 2=1 then -1 - z / 2 else z / 2
def gz:Nat→Int→List Int→Int×Int×Int
 |_,_,[]=>(0,0,5)
 |k,z,c::r=>if (k=9∧c>1)∨(k>0∧c=0) then (0,0,6) else if c<128 then (un (z+c % 128 * 128^k),(k:Int)+1,0) else gz (k+1) (z+c % 128 * 128^k) r
def gi (b:List Int):Int×Int×Int:=gz 0 0 b
theorem Av {b:List Int} {k:Nat} {z:Int} (h:k<b.length):gz k z (b.drop k)=if (k=9∧b[k]>1)∨(k>0∧b[k]=0) then (0,0,6) else if b[k]<128 then (un (z+b[k] % 128 * 128^k),(k:Int)+1,0) else gz (k+1) (z+b[k] % 128 * 128^k) (b.drop (k+1)):=by
 rw [List.drop_eq_getElem_cons h];rfl
theorem A3: ∀c:Fin 256,iw .and .u8 (c.val:Int) 127=(c.val:Int) % 128:=by decide+kernel
theorem Ai {c:Int} (h0:0≤c) (h1:c<256):iw .and .u8 c 127=c % 128:=by
 obtain ⟨c,rfl⟩:=Int.eq_ofNat_of_zero_le h0
 exact A3 ⟨c,by omega⟩
theorem AG {a b:Int} (k:Nat) (ha:0≤a) (ha2:a<18446744073709551616) (hd:a % 2^k=0) (hb:0≤b) (hb2:b<2^k) (hk:k≤64):iw .or .u64 a b=a+b:=by
 obtain ⟨a,rfl⟩:=Int.eq_ofNat_of_zero_le ha
 obtain ⟨b,rfl⟩:=Int.eq_ofNat_of_zero_le hb
 have hk2:(2:Nat)^k≤2^64:=Nat.pow_le_pow_right (by decide) hk
 have hb3:b<2^k:=by exact_mod_cast hb2
 have hd2:a % 2^k=0:=by exact_mod_cast hd
 have ha3:a<2^64:=by omega
 have hb4:b<2^64:=by omega
 have e:a ||| b=a+b:=by
  have:=Nat.two_pow_add_eq_or_of_lt hb3 (a / 2^k)
  have h2:2^k * (a / 2^k)=a:=Nat.mul_div_cancel' (Nat.dvd_of_mod_eq_zero hd2)
  rw [h2] at this
  exact this.symm
 have hor:a ||| b<2^64:=Nat.or_lt_two_pow ha3 hb4
 have e1:(BitVec.ofInt 64 ((a:Nat):Int)).toNat=a:=by
  rw [BitVec.ofInt_natCast,BitVec.toNat_ofNat,Nat.mod_eq_of_lt ha3]
 have e2:(BitVec.ofInt 64 ((b:Nat):Int)).toNat=b:=by
  rw [BitVec.ofInt_natCast,BitVec.toNat_ofNat,Nat.mod_eq_of_lt hb4]
 show IntKind.u64.wrap ((BitVec.ofInt 64 ((a:Nat):Int) ||| BitVec.ofInt 64 ((b:Nat):Int)).toNat:Int)=_
 rw [BitVec.toNat_or,e1,e2,e,w64 (by omega) (by omega)]
 rfl
theorem zy (k:Nat):(2:Int)^(7 * k)=128^k:=by rw [Int.pow_mul];rfl
theorem digit {z c:Int} {k:Nat} (hz:0≤z) (hz2:z<128^k) (hk:k≤9) (c0:0≤c) (c1:c<256) (h9:k=9→c≤1):
  iw .or .u64 z (IntKind.u64.wrap (c % 128 * 2^(7 * k)))=z+c % 128 * 128^k∧0≤z+c % 128 * 128^k∧z+c % 128 * 128^k<128^(k+1)∧z+c % 128 * 128^k<18446744073709551616:=by
 have m0:0≤c % 128:=Int.emod_nonneg _ (by decide)
 have m1:c % 128≤127:=by omega
 have hp:(0:Int)<128^k:=Int.pow_pos (by decide)
 have hlt:c % 128 * 128^k<18446744073709551616∧z+c % 128 * 128^k<18446744073709551616:=by
  by_cases h:k=9
  ·subst h
   have:c≤1:=h9 rfl
   have e:(128:Int)^9=9223372036854775808:=by decide
   rw [e] at hz2 ⊢
   omega
  ·have h8:(128:Int)^k≤128^8:=by have:=Nat.pow_le_pow_right (show 0<128 by decide) (show k≤8 by omega);exact_mod_cast this
   have e:(128:Int)^8=72057594037927936:=by decide
   have:c % 128 * 128^k≤127 * 128^k:=Int.mul_le_mul_of_nonneg_right m1 (Int.le_of_lt hp)
   rw [e] at h8
   omega
 have h0:0≤c % 128 * 128^k:=Int.mul_nonneg m0 (Int.le_of_lt hp)
 refine ⟨?_,by omega,?_,hlt.2⟩
 ·rw [zy,w64 h0 hlt.1,or_comm,AG (7 * k) h0 hlt.1 (by rw [zy];exact Int.mul_emod_left _ _) hz (by rw [zy];exact hz2) (by omega),Int.add_comm]
 ·rw [Int.pow_succ]
  have:c % 128 * 128^k≤127 * 128^k:=Int.mul_le_mul_of_nonneg_right m1 (Int.le_of_lt hp)
  omega
theorem zd {a:Int} (h0:0≤a) (h1:a<9223372036854775808):iw .xor .i64 a (-1)= -1 - a:=by
 obtain ⟨a,rfl⟩:=Int.eq_ofNat_of_zero_le h0
 have ha:a<2^64:=by omega
 have e1:(BitVec.ofInt 64 (-1))=BitVec.allOnes 64:=by decide
 have e2:(BitVec.ofInt 64 ((a:Nat):Int)).toNat=a:=by
  rw [BitVec.ofInt_natCast,BitVec.toNat_ofNat,Nat.mod_eq_of_lt ha]
 show IntKind.i64.wrap ((BitVec.ofInt 64 ((a:Nat):Int) ^^^ BitVec.ofInt 64 (-1)).toNat:Int)=_
 rw [e1,BitVec.xor_allOnes,BitVec.toNat_not,e2]
 unfold IntKind.wrap;simp [IntKind.bits,IntKind.signed];omega
theorem ze {a:Int} (h0:0≤a) (h1:a<9223372036854775808):iw .xor .i64 a 0=a:=by
 obtain ⟨a,rfl⟩:=Int.eq_ofNat_of_zero_le h0
 have ha:a<2^64:=by omega
 have e2:(BitVec.ofInt 64 ((a:Nat):Int)).toNat=a:=by
  rw [BitVec.ofInt_natCast,BitVec.toNat_ofNat,Nat.mod_eq_of_lt ha]
 show IntKind.i64.wrap ((BitVec.ofInt 64 ((a:Nat):Int) ^^^ BitVec.ofInt 64 0).toNat:Int)=_
 have e1:(BitVec.ofInt 64 0)=0#64:=by decide
 rw [e1,BitVec.xor_zero,e2]
 exact mQ (by omega) (by omega)
theorem Ch {z:Int} (h0:0≤z) (h1:z<18446744073709551616):iw .and .u64 z 1=z % 2:=by
 obtain ⟨a,rfl⟩:=Int.eq_ofNat_of_zero_le h0
 have ha:a<2^64:=by omega
 have e2:(BitVec.ofInt 64 ((a:Nat):Int)).toNat=a:=by
  rw [BitVec.ofInt_natCast,BitVec.toNat_ofNat,Nat.mod_eq_of_lt ha]
 show IntKind.u64.wrap ((BitVec.ofInt 64 ((a:Nat):Int) &&& BitVec.ofInt 64 1).toNat:Int)=_
 have e1:(BitVec.ofInt 64 1).toNat=1:=by decide
 rw [BitVec.toNat_and,e2,e1,Nat.and_one_is_mod,w64 (by omega) (by omega)]
 rfl
theorem Ce {z:Int} (h0:0≤z) (h1:z<18446744073709551616):iw .xor .i64 (IntKind.i64.wrap (z.fdiv (2^1))) (IntKind.i64.wrap (-(IntKind.i64.wrap (iw .and .u64 z 1))))=un z:=by
 rw [Ch h0 h1]
 have e:z.fdiv (2^1)=z / 2:=by rw [Int.fdiv_eq_ediv_of_nonneg _ (by decide)];rfl
 rw [e,mQ (by omega) (by omega),mQ (n:=z % 2) (by omega) (by omega)]
 unfold un
 rcases Int.emod_two_eq z with h|h
 ·rw [h,if_neg (by decide),show IntKind.i64.wrap (-0)=0 by decide,ze (by omega) (by omega)]
 ·rw [h,if_pos rfl,show IntKind.i64.wrap (-1)= -1 by decide,zd (by omega) (by omega)]
end Go.RC
end
section
namespace Go.RC
open Go Go.DL Go.Proofs
theorem BC {z:Int} (h0:0≤z) (h1:z<18446744073709551616):iw .xor .i64 (IntKind.i64.wrap (z.fdiv (2^min (Int.toNat 1) IntKind.u64.bits))) (IntKind.i64.wrap (0 - IntKind.i64.wrap (iw .and .u64 z 1)))=un z:=by
 rw [show min (Int.toNat 1) IntKind.u64.bits=1 from by decide,Int.zero_sub];exact Ce h0 h1
abbrev gT (x:Int×Int×Int):T:=.tup [I x.1,I x.2.1,I x.2.2]
theorem tO (b:List Int) (hb:se b) (hl:b.length<2^60):DCalls Tryz.prog 96 [.slice 1 (b.map Y)] (gT (gi b)):=by
 refine qQ (rs:=[.tmp 2,.tmp 3,.tmp 4]) mixed Tryz.func96 l96 rfl rfl rfl (r:=[I _,I _,I _]) (nlZ rfl) ?_
 skip
 refine qY 0 (α:=Nat×Int) (β:=Int×Int) (fun q=>{sl:=[(5,.t (Q q.2)),(6,.t (I 0)),(9,.t (.slice 1 (b.map Y))),(10,.t (I b.length)),(11,.t (I q.1))],bx:=[]})
  (fun q=>q.1≤b.length∧q.1≤9∧0≤q.2∧q.2<128^q.1∧gz q.1 q.2 (b.drop q.1)=gi b) (fun q=>b.length - q.1)
  (fun z=>{sl:=[(5,.t (Q z.1)),(6,.t (I z.2))],bx:=[]}) (fun z=>(z.2=0∧gi b=(0,0,5))∨(0<z.2∧0≤z.1∧z.1<18446744073709551616∧gi b=(un z.1,z.2,0))) (0,0) ⟨by simp,by simp,by simp,by simp,rfl⟩ ?_ ?_ ?_
 ·repeat' (first|((refine leI ?_;simp;done))|exact trivial|exact LeV.same _|exact rfl|exact fun _ _ _=>trivial|refine And.intro ?_ ?_)
 ·rintro ⟨k,z⟩ ⟨hk,h9,hz,hz2,ho⟩
  dsimp only at hk h9 hz hz2 ho
  rcases Nat.lt_or_ge k b.length with h2|h2
  ·rw [Av h2] at ho
   obtain ⟨c0,c1⟩:=hb b[k] (List.getElem_mem h2)
   have hxe:b[k]? =some b[k]:=ggZ h2
   generalize b[k]=c at ho c0 c1 hxe
   have hg:((b.map Y)[k]?.getD .nil)=Y c:=by rw [List.getElem?_map,hxe];rfl
   by_cases hE:(k=9∧c>1)∨(k>0∧c=0)
   ·rw [if_pos hE] at ho
    by_cases k9:k=9
    ·by_cases c1':c>1
     ·repeat' ((conv=>whnf);first|(refine nv_ (Y c) (by first|((simp only [Int.toNat_natCast];exact hg);done)|fail) ?_)|refine nT_ ?_|refine aE1 ?_|refine aD1 ?_|(refine And.intro (by first|((simp;omega);done)|fail) ?_)|refine aS ?_|(exact ri (by rw [← ho]) (ri (by rw [← ho]) (ri (by rw [← ho]) trivial)))|fail)
     ·have c0':c=0:=by omega
      repeat' ((conv=>whnf);first|(refine nv_ (Y c) (by first|((simp only [Int.toNat_natCast];exact hg);done)|fail) ?_)|refine nT_ ?_|refine aE1 ?_|refine aD1 ?_|refine aD0 ?_|(refine And.intro (by first|((simp;omega);done)|fail) ?_)|refine aS ?_|(exact ri (by rw [← ho]) (ri (by rw [← ho]) (ri (by rw [← ho]) trivial)))|fail)
    ·have c0':c=0:=by omega
     have k0:k>0:=by omega
     repeat' ((conv=>whnf);first|(refine nv_ (Y c) (by first|((simp only [Int.toNat_natCast];exact hg);done)|fail) ?_)|refine nT_ ?_|refine aE1 ?_|refine aE0 ?_|refine aD1 ?_|(refine And.intro (by first|((simp;omega);done)|fail) ?_)|refine aS ?_|(exact ri (by rw [← ho]) (ri (by rw [← ho]) (ri (by rw [← ho]) trivial)))|fail)
   rw [if_neg hE] at ho
   have hd:=digit hz hz2 h9 c0 c1 (fun h=>by omega)
   have hw:IntKind.i64.wrap (7 * (k:Int))=((7 * k:Nat):Int):=by rw [mQ (by omega) (by omega)];simp
   have hv:z+c % 128 * 128^k=iw .or .u64 z (IntKind.u64.wrap (IntKind.u64.wrap (iw .and .u8 c 127) * 2^min (IntKind.i64.wrap (7 * (k:Int))).toNat IntKind.u64.bits)):=by
    rw [Ai c0 c1,w64 (n:=c % 128) (by omega) (by omega),hw,Int.toNat_natCast,show min (7 * k) IntKind.u64.bits=7 * k from Nat.min_eq_left (Nat.le_trans (by omega) (nlZ (n:=63) rfl)),hd.1]
   have hk1:(k:Int)+1=IntKind.i64.wrap ((k:Int)+1):=(mQ (by omega) (by omega)).symm
   by_cases c8:c<128
   ·rw [if_pos c8] at ho
    by_cases k9:k=9
    ·repeat' ((conv=>whnf);first|(refine nv_ (Y c) (by first|((simp only [Int.toNat_natCast];exact hg);done)|fail) ?_)|refine nT_ ?_|refine aE1 ?_|refine aE0 ?_|refine aD1 ?_|refine aD0 ?_|(refine And.intro (by first|((simp;omega);done)|fail) ?_)|refine aS ?_|fail)
     refine ⟨(z+c % 128 * 128^k,(k:Int)+1),.inr ⟨by dsimp only;omega,hd.2.1,hd.2.2.2,ho.symm⟩,?_⟩
     repeat' (first|((refine leT ?_;exact congrArg Q hv))|((refine leI ?_;exact hk1))|exact trivial|exact rfl|exact fun _ _ _=>trivial|refine And.intro ?_ ?_)
    by_cases k0:k=0
    ·repeat' ((conv=>whnf);first|(refine nv_ (Y c) (by first|((simp only [Int.toNat_natCast];exact hg);done)|fail) ?_)|refine nT_ ?_|refine aE0 ?_|refine aD1 ?_|refine aD0 ?_|(refine And.intro (by first|((simp;omega);done)|fail) ?_)|refine aS ?_|fail)
     refine ⟨(z+c % 128 * 128^k,(k:Int)+1),.inr ⟨by dsimp only;omega,hd.2.1,hd.2.2.2,ho.symm⟩,?_⟩
     repeat' (first|((refine leT ?_;exact congrArg Q hv))|((refine leI ?_;exact hk1))|exact trivial|exact rfl|exact fun _ _ _=>trivial|refine And.intro ?_ ?_)
    ·have c0':c≠0:=by omega
     repeat' ((conv=>whnf);first|(refine nv_ (Y c) (by first|((simp only [Int.toNat_natCast];exact hg);done)|fail) ?_)|refine nT_ ?_|refine aE0 ?_|refine aD1 ?_|(refine And.intro (by first|((simp;omega);done)|fail) ?_)|refine aS ?_|fail)
     refine ⟨(z+c % 128 * 128^k,(k:Int)+1),.inr ⟨by dsimp only;omega,hd.2.1,hd.2.2.2,ho.symm⟩,?_⟩
     repeat' (first|((refine leT ?_;exact congrArg Q hv))|((refine leI ?_;exact hk1))|exact trivial|exact rfl|exact fun _ _ _=>trivial|refine And.intro ?_ ?_)
   ·rw [if_neg c8] at ho
    have k9:k≠9:=by omega
    by_cases k0:k=0
    ·repeat' ((conv=>whnf);first|(refine nv_ (Y c) (by first|((simp only [Int.toNat_natCast];exact hg);done)|fail) ?_)|refine nT_ ?_|refine aE0 ?_|refine aD1 ?_|refine aD0 ?_|(refine And.intro (by first|((simp;omega);done)|fail) ?_)|refine aS ?_|fail)
     refine ⟨(k+1,z+c % 128 * 128^k),⟨by dsimp only;omega,by dsimp only;omega,hd.2.1,hd.2.2.1,ho⟩,by dsimp only;omega,?_⟩
     repeat' (first|((refine leT ?_;exact congrArg Q hv))|((refine leI ?_;exact hk1))|exact trivial|exact LeV.same _|exact rfl|exact fun _ _ _=>trivial|refine And.intro ?_ ?_)
    ·have c0':c≠0:=by omega
     repeat' ((conv=>whnf);first|(refine nv_ (Y c) (by first|((simp only [Int.toNat_natCast];exact hg);done)|fail) ?_)|refine nT_ ?_|refine aE0 ?_|refine aD1 ?_|refine aD0 ?_|(refine And.intro (by first|((simp;omega);done)|fail) ?_)|refine aS ?_|fail)
     refine ⟨(k+1,z+c % 128 * 128^k),⟨by dsimp only;omega,by dsimp only;omega,hd.2.1,hd.2.2.1,ho⟩,by dsimp only;omega,?_⟩
     repeat' (first|((refine leT ?_;exact congrArg Q hv))|((refine leI ?_;exact hk1))|exact trivial|exact LeV.same _|exact rfl|exact fun _ _ _=>trivial|refine And.intro ?_ ?_)
  ·have:k=b.length:=by omega
   subst this
   rw [List.drop_length] at ho
   repeat' ((conv=>whnf);first|refine aD0 ?_|refine aS ?_|fail)
   exact ⟨(z,0),.inl ⟨rfl,ho.symm⟩,by repeat' (first|exact trivial|exact LeV.same _|exact rfl|exact fun _ _ _=>trivial|refine And.intro ?_ ?_)⟩
 rintro ⟨z,u⟩ h
 dsimp only at h
 rcases h with ⟨h1,h2⟩|⟨h1,h2,h3,h4⟩
 ·subst h1
  rw [h2]
  repeat' ((conv=>whnf);first|exact trivial|refine aE1 ?_|refine rix ?_|refine aS ?_|fail)
 ·rw [h4]
  have hu:=BC h2 h3
  repeat' ((conv=>whnf);first|exact trivial|refine qy (by omega) ?_|refine rix ?_|refine aS ?_|fail)
end Go.RC
end
section
end
section
namespace Go.RC
open Go Go.DL Go.Proofs
theorem Bz {z:Int} (h0:0≤z) (h1:z<18446744073709551616):i64 (un z):=by
 unfold un i64;split <;> omega
theorem zU: ∀{l:List Int} {k:Nat} {z:Int},se l→k≤9→0≤z→z<128^k→i64 (gz k z l).1∧0≤(gz k z l).2.1∧(gz k z l).2.1≤k+l.length∧0≤(gz k z l).2.2∧(gz k z l).2.2≤6∧((gz k z l).2.2=0→(k:Int)+1≤(gz k z l).2.1)
 |[],k,z,_,_,_,_=>by
  rw [gz];refine ⟨by unfold i64;omega,by simp,by simp,by simp,by simp,by simp⟩
 |c::l,k,z,hb,h9,hz,hz2=>by
  obtain ⟨c0,c1⟩:=hb c (by simp)
  rw [gz]
  by_cases hE:(k=9∧c>1)∨(k>0∧c=0)
  ·rw [if_pos hE];refine ⟨by unfold i64;omega,by simp,by simp;omega,by simp,by simp,by simp⟩
  rw [if_neg hE]
  obtain ⟨-,d1,d2,d3⟩:=digit hz hz2 h9 c0 c1 (fun h=>by omega)
  by_cases c8:c<128
  ·rw [if_pos c8]
   exact ⟨Bz d1 d3,by dsimp only;omega,by dsimp only;simp only [List.length_cons];omega,by simp,by simp,by simp⟩
  ·rw [if_neg c8]
   obtain ⟨q1,q2,q3,q4,q5,q6⟩:=zU (l:=l) (k:=k+1) (z:=z+c % 128 * 128^k) (fun x hx=>hb x (by simp [hx])) (by omega) d1 d2
   refine ⟨q1,q2,?_,q4,q5,fun h=>by have:=q6 h;omega⟩
   simp only [List.length_cons];omega
theorem tG {b:List Int} (hb:se b):i64 (gi b).1∧0≤(gi b).2.1∧(gi b).2.1≤b.length∧0≤(gi b).2.2∧(gi b).2.2≤6∧((gi b).2.2=0→1≤(gi b).2.1):=by
 obtain ⟨q1,q2,q3,q4,q5,q6⟩:=zU (k:=0) (z:=0) hb (by omega) (by omega) (by decide)
 have e:gi b=gz 0 0 b:=rfl
 rw [e]
 exact ⟨q1,q2,by omega,q4,q5,fun h=>by have:=q6 h;omega⟩
def gl (b:List Int) (least:Int):Int×Int×Int:=if (gi b).2.2≠0 then (0,0,(gi b).2.2) else if (gi b).1<0 then (0,0,6) else if (gi b).1>(b.length - (gi b).2.1) / least then (0,0,5) else ((gi b).1,(gi b).2.1,0)
theorem um (b:List Int) (least:Int) (hb:se b) (hl:b.length<2^60) (h0:0<least) (h1:least<100):DCalls Tryz.prog 135 [.slice 1 (b.map Y),I least] (gT (gl b least)):=by
 refine qQ (rs:=[.tmp 4,.tmp 5,.tmp 6]) mixed Tryz.func135 C1 rfl rfl rfl (r:=[I _,I _,I _]) (nlZ rfl) ?_
 have hG:=tO b hb hl
 obtain ⟨q1,q2,q3,q4,q5,q6⟩:=tG hb
 unfold gl
 generalize gi b=g at *
 obtain ⟨n,u,e⟩:=g
 dsimp only at *
 by_cases e0:e=0
 case neg=>
  rw [if_pos e0]
  repeat' ((conv=>whnf);first|exact trivial|refine rD _ (hG) ?_|refine qB e0 ?_|refine rix ?_|refine aS ?_|fail)
 rw [if_neg (by simpa using e0)]
 by_cases n0:n<0
 ·rw [if_pos n0]
  repeat' ((conv=>whnf);first|exact trivial|refine rD _ (hG) ?_|refine qA e0 ?_|refine qx n0 ?_|refine rix ?_|refine aS ?_|fail)
 rw [if_neg n0]
 have hq:IntKind.i64.wrap ((IntKind.i64.wrap (((b.map Y).length:Int) - u)).tdiv least)=(b.length - u) / least:=by
  rw [List.length_map,mQ (n:=(b.length:Int) - u) (by omega) (by omega),Int.tdiv_eq_ediv_of_nonneg (by omega)]
  have h3:0≤((b.length:Int) - u) / least:=Int.ediv_nonneg (by omega) (by omega)
  have h4:((b.length:Int) - u) / least≤(b.length:Int) - u:=Int.ediv_le_self _ (by omega)
  exact mQ (by omega) (by omega)
 by_cases c:n>(b.length - u) / least
 ·rw [if_pos c]
  repeat' ((conv=>whnf);first|exact trivial|refine rD _ (hG) ?_|refine qA e0 ?_|refine qw n0 ?_|(refine qx (by rw [hq];exact c) ?_)|refine rix ?_|(refine And.intro (by first|(omega;done)|fail) ?_)|refine aS ?_|fail)
 ·rw [if_neg c]
  repeat' ((conv=>whnf);first|exact trivial|refine rD _ (hG) ?_|refine qA e0 ?_|refine qw n0 ?_|(refine qw (by rw [hq];exact c) ?_)|refine rix ?_|(refine And.intro (by first|(omega;done)|fail) ?_)|refine aS ?_|fail)
end Go.RC
end
section
namespace Go.RC
open Go Go.DL Go.Proofs
def gis:Nat→List Int→Int→List Int→List Int×Int×Int
 |0,_,at',acc=>(acc,at',0)
 |n+1,b,at',acc=>if (gi (b.drop at'.toNat)).2.2≠0 then ([],0,(gi (b.drop at'.toNat)).2.2) else gis n b (at'+(gi (b.drop at'.toNat)).2.1) (acc++[(gi (b.drop at'.toNat)).1])
def r6 (b:List Int):List Int×Int×Int:=if (gl b 1).2.2≠0 then ([],0,(gl b 1).2.2) else gis (gl b 1).1.toNat b (gl b 1).2.1 []
abbrev gsT (x:List Int×Int×Int):T:=.tup [if x.2.2≠0 then .nil else .slice 1 (x.1.map I),I x.2.1,I x.2.2]
theorem sq {b:List Int} (h:se b) (k:Nat):se (b.drop k):=fun x hx=>h x (List.mem_of_mem_drop hx)
theorem uJ {b:List Int} {least:Int} (hb:se b) (h0:0<least):0≤(gl b least).1∧0≤(gl b least).2.1∧(gl b least).2.1≤b.length∧(gl b least).1 * least≤b.length - (gl b least).2.1:=by
 obtain ⟨q1,q2,q3,q4,q5,q6⟩:=tG hb
 unfold gl
 generalize gi b=g at *
 obtain ⟨n,u,e⟩:=g
 dsimp only at *
 by_cases e0:e≠0
 ·rw [if_pos e0];refine ⟨by simp,by simp,by simp,by simp⟩
 rw [if_neg e0]
 by_cases n0:n<0
 ·rw [if_pos n0];refine ⟨by simp,by simp,by simp,by simp⟩
 rw [if_neg n0]
 by_cases c:n>(b.length - u) / least
 ·rw [if_pos c];refine ⟨by simp,by simp,by simp,by simp⟩
 rw [if_neg c]
 refine ⟨by dsimp only;omega,by dsimp only;omega,by dsimp only;omega,?_⟩
 dsimp only
 have h1:n * least≤(b.length - u) / least * least:=Int.mul_le_mul_of_nonneg_right (by omega) (by omega)
 have h2:((b.length:Int) - u) / least * least≤(b.length:Int) - u:=Int.ediv_mul_le _ (by omega)
 omega
theorem zp {n:Nat} {b:List Int} {a:Int} {acc:List Int} (k:Nat) (hk:k<n):gis (n - k) b a acc=if (gi (b.drop a.toNat)).2.2≠0 then ([],0,(gi (b.drop a.toNat)).2.2) else gis (n - (k+1)) b (a+(gi (b.drop a.toNat)).2.1) (acc++[(gi (b.drop a.toNat)).1]):=by
 obtain ⟨m,hm⟩: ∃m,n - k=m+1:=⟨n - k - 1,by omega⟩
 rw [hm,show n - (k+1)=m by omega];rfl
end Go.RC
end
section
namespace Go.RC
open Go Go.DL Go.Proofs
theorem za (b:List Int) (hb:se b) (hl:b.length<2^40):DCalls Tryz.prog 136 [.slice 1 (b.map Y),I 1,.clos 96 []] (gsT (r6 b)):=by
 refine qQ (rs:=[.tmp 6,.tmp 7,.tmp 8]) mixed Tryz.func136 C2 rfl rfl rfl (r:=[_,I _,I _]) (nlZ rfl) ?_
 have hL:=um b 1 hb (by omega) (by omega) (by omega)
 obtain ⟨g1,g2,g3,g4⟩:=uJ (least:=1) hb (by omega)
 have hgi:r6 b=if (gl b 1).2.2≠0 then ([],0,(gl b 1).2.2) else gis (gl b 1).1.toNat b (gl b 1).2.1 []:=rfl
 generalize gl b 1=g at *
 obtain ⟨n,u,e⟩:=g
 dsimp only at *
 by_cases e0:e=0
 case neg=>
  rw [if_pos e0] at hgi
  rw [hgi]
  show wpC _ _ _ (ou _ _ [if e≠0 then .nil else .slice 1 ([].map I),I 0,I e])
  rw [if_pos e0]
  repeat' ((conv=>whnf);first|exact trivial|refine rD _ (hL) ?_|refine qB e0 ?_|refine rix ?_|refine aS ?_|fail)
 rw [if_neg (fun h=>h e0)] at hgi
 rw [hgi]
 repeat' ((conv=>whnf);first|refine rD _ (hL) ?_|refine qA e0 ?_|refine aS ?_|fail)
 have hr:gsT (gis n.toNat b u [])= .tup [if (gis n.toNat b u []).2.2≠0 then .nil else .slice 1 ((gis n.toNat b u []).1.map I),I (gis n.toNat b u []).2.1,I (gis n.toNat b u []).2.2]:=rfl
 refine qY 0 (α:=Nat×Nat×Int×List Int) (β:=Nat×Int×List Int) (fun q=>{sl:=[(0,.t (.slice 1 (b.map Y))),(2,.t (.clos 96 [])),(10,.t (I q.2.2.1)),(12,.own q.1 3 1 (q.2.2.2.map I)),(26,.t (I n)),(27,.t (I q.2.1))],bx:=[]})
  (fun q=>q.2.1≤n.toNat∧q.2.2.2.length=q.2.1∧0≤q.2.2.1∧q.2.2.1≤b.length∧gis (n.toNat - q.2.1) b q.2.2.1 q.2.2.2=gis n.toNat b u []) (fun q=>n.toNat - q.2.1)
  (fun q=>{sl:=[(10,.t (I q.2.1)),(12,.own q.1 3 1 (q.2.2.map I))],bx:=[]}) (fun q=>gis n.toNat b u []=(q.2.2,q.2.1,0)) (44,0,u,[]) ⟨by simp,rfl,g2,g3,rfl⟩ ?_ ?_ ?_
 ·repeat' (first|exact trivial|exact LeV.same _|exact rfl|exact fun _ _ _=>trivial|exact LeV.nil _ _ _|refine And.intro ?_ ?_)
 ·rintro ⟨q,k,a,acc⟩ ⟨hk,hla,ha0,ha1,ho⟩
  dsimp only at hk hla ha0 ha1 ho
  rcases Nat.lt_or_ge k n.toNat with h2|h2
  ·rw [zp k h2] at ho
   have hG:=tO (b.drop a.toNat) (sq hb _) (by simp;omega)
   obtain ⟨q1,q2,q3,q4,q5,q6⟩:=tG (sq hb a.toNat)
   rw [List.length_drop] at q3
   rw [List.map_drop,show (b.map Y).drop a.toNat=List.drop a.toNat (List.take ((((b.map Y).length:Nat):Int)).toNat (b.map Y)) by rw [Int.toNat_natCast,List.take_length]] at hG
   generalize gi (b.drop a.toNat)=g at *
   obtain ⟨v,w,f⟩:=g
   dsimp only at *
   by_cases f0:f=0
   ·rw [if_neg (fun h=>h f0)] at ho
    repeat' ((conv=>whnf);first|refine rD _ (hG) ?_|refine qA f0 ?_|refine nT_ ?_|refine aD1 ?_|(refine And.intro (by first|((simp;omega);done)|fail) ?_)|refine aS ?_|fail)
    have hw1:a+w=IntKind.i64.wrap (a+w):=(mQ (by omega) (by omega)).symm
    have hw2:((k+1:Nat):Int)=IntKind.i64.wrap ((k:Int)+1):=by rw [mQ (by omega) (by omega)];rfl
    refine ⟨(44,k+1,a+w,acc++[v]),⟨by dsimp only;omega,by simp [hla],by dsimp only;omega,by dsimp only;omega,ho⟩,by dsimp only;omega,?_⟩
    repeat' (first|((refine leI ?_;first|exact hw1|exact hw2))|((refine rH ?_;simp;done))|exact trivial|exact LeV.same _|exact rfl|exact fun _ _ _=>trivial|refine And.intro ?_ ?_)
   ·rw [if_pos f0] at ho
    repeat' ((conv=>whnf);first|refine rD _ (hG) ?_|refine qB f0 ?_|refine nT_ ?_|refine aD1 ?_|(refine And.intro (by first|((simp;omega);done)|fail) ?_)|refine aS ?_|refine rt ?_ (ri ?_ (ri ?_ trivial))|fail)
    all_goals rw [← ho]
    exact (if_pos f0).symm
  ·have:k=n.toNat:=by omega
   subst this
   rw [Nat.sub_self] at ho
   repeat' ((conv=>whnf);first|(refine qw (by simp;omega) ?_)|refine aS ?_|fail)
   exact ⟨(q,a,acc),ho.symm,by repeat' (first|exact trivial|exact LeV.same _|exact rfl|exact fun _ _ _=>trivial|refine And.intro ?_ ?_)⟩
 rintro ⟨q,a,acc⟩ h
 rw [h]
 repeat' ((conv=>whnf);first|exact trivial|refine rix ?_|refine aS ?_|fail)
theorem tT (b:List Int) (hb:se b) (hl:b.length<2^40):DCalls Tryz.prog 98 [.slice 1 (b.map Y)] (gsT (r6 b)):=by
 refine qQ (rs:=[.tmp 2,.tmp 3,.tmp 4]) mixed Tryz.func98 l98 rfl rfl rfl (r:=[_,I _,I _]) (nlZ rfl) ?_
 have h:=za b hb hl
 repeat' ((conv=>whnf);first|exact trivial|refine rD _ (h) ?_|refine rix ?_|refine aS ?_|fail)
end Go.RC
end
section
end
section
end
section
namespace Go.RC
open Go Go.DL Go.Proofs
theorem Cd (n:Int):un (zz n:Nat)=n:=by unfold un zz;split <;> split <;> omega
theorem Cf {m:Nat}:zz (un (m:Int))=m:=by unfold un zz;split <;> split <;> omega
theorem BD (m:Nat):1≤(vb m).length:=by
 by_cases h:m<128
 ·rw [tU h];simp
 ·rw [uu h];simp
theorem vF (n:Int):1≤(vi n).length:=BD _
theorem Dc:(128:Int)^9=9223372036854775808:=by decide
theorem BJ: ∀(m k:Nat) (z:Int) (r:List Int),0≤z→z+(m:Int) * 128^k<18446744073709551616→(k>0→m>0)→gz k z (vb m++r)=(un (z+(m:Int) * 128^k),(k:Int)+(vb m).length,0):=by
 intro m
 induction m using Nat.strongRecOn with
 |ind m ih=>
  intro k z r hz hlt hk
  have hp:(0:Int)<128^k:=Int.pow_pos (by decide)
  have h9:k=9→m<2:=fun h=>by subst h;rw [Dc] at hlt;omega
  by_cases h:m<128
  ·rw [tU h]
   show gz k z ((m:Int)::r)=_
   rw [gz,if_neg (by rintro (⟨a,b⟩|⟨a,b⟩);(have:=h9 a;omega);(have:=hk a;omega)),if_pos (by omega)]
   rw [show (m:Int) % 128=m by omega]
   rfl
  ·rw [uu h]
   show gz k z (((m % 128+128:Nat):Int)::(vb (m / 128)++r))=_
   rw [gz,if_neg (by rintro (⟨a,b⟩|⟨a,b⟩);(have:=h9 a;omega);(omega)),if_neg (by omega)]
   rw [show ((m % 128+128:Nat):Int) % 128=((m % 128:Nat):Int) by omega]
   have e:z+((m % 128:Nat):Int) * 128^k+((m / 128:Nat):Int) * 128^(k+1)=z+(m:Int) * 128^k:=by
    rw [Int.pow_succ,Int.mul_comm (128^k) 128, ←Int.mul_assoc,Int.add_assoc, ←Int.add_mul]
    congr 2;omega
   have h1:(0:Int)≤((m % 128:Nat):Int) * 128^k:=Int.mul_nonneg (by omega) (Int.le_of_lt hp)
   rw [ih (m / 128) (by omega) (k+1) _ r (by omega) (by rw [e];exact hlt) (fun _=>by omega),e,List.length_cons]
   congr 2
   omega
theorem wC {n:Int} (h:i64 n) (r:List Int):gi (vi n++r)=(n,(((vi n).length:Nat):Int),0):=by
 have:=BJ (zz n) 0 0 r (by omega) (by have:=yt h;omega) (fun h=>by omega)
 unfold gi vi
 rw [this]
 have e:(0:Int)+((zz n:Nat):Int) * 128^0=((zz n:Nat):Int):=by simp
 rw [e,Cd]
 simp
theorem yD: ∀{b:List Int} {k:Nat} {z:Int},se b→k≤9→0≤z→z<128^k→(gz k z b).2.2=0→ ∃m:Nat,(gz k z b).2.1=k+(vb m).length∧b=vb m++b.drop (vb m).length∧(gz k z b).1=un (z+(m:Int) * 128^k)∧(k>0→m>0)
 |[],k,z,_,_,_,_,h=>by rw [gz] at h;simp at h
 |c::r,k,z,hb,hk,hz,hz2,h=>by
  obtain ⟨c0,c1⟩:=hb c (by simp)
  obtain ⟨c,rfl⟩:=Int.eq_ofNat_of_zero_le c0
  have hr:se r:=fun x hx=>hb x (by simp [hx])
  rw [gz] at h ⊢
  by_cases hE:(k=9∧(c:Int)>1)∨(k>0∧(c:Int)=0)
  ·rw [if_pos hE] at h;simp at h
  rw [if_neg hE] at h ⊢
  obtain ⟨-,d1,d2,d3⟩:=digit hz hz2 hk c0 c1 (fun h=>by omega)
  by_cases c8:(c:Int)<128
  ·rw [if_pos c8]
   refine ⟨c,?_,?_,?_,fun hk0=>by omega⟩
   ·rw [tU (by omega)];rfl
   ·rw [tU (by omega)];rfl
   ·rw [show (c:Int) % 128=c by omega]
  ·rw [if_neg c8] at h ⊢
   obtain ⟨m,q1,q2,q3,q4⟩:=yD (b:=r) (k:=k+1) hr (by omega) d1 d2 h
   have hm:=q4 (by omega)
   refine ⟨c % 128+128 * m,?_,?_,?_,fun _=>by omega⟩
   ·rw [q1,uu (z:=c % 128+128 * m) (by omega),show (c % 128+128 * m) / 128=m by omega,List.length_cons];omega
   ·rw [uu (z:=c % 128+128 * m) (by omega),show (c % 128+128 * m) / 128=m by omega,show (c % 128+128 * m) % 128+128=c by omega,List.length_cons,List.drop_succ_cons,List.cons_append, ←q2]
   ·rw [q3]
    congr 1
    rw [Int.pow_succ,Int.mul_comm (128^k) 128, ←Int.mul_assoc,Int.add_assoc, ←Int.add_mul]
    congr 2;omega
theorem wS {b:List Int} (hb:se b) (h:(gi b).2.2=0):(gi b).2.1=(vi (gi b).1).length∧b=vi (gi b).1++b.drop (gi b).2.1.toNat:=by
 obtain ⟨m,q1,q2,q3,q4⟩:=yD (b:=b) (k:=0) (z:=0) hb (by omega) (by omega) (by decide) h
 have e:(gi b).1=un (m:Int):=by
  rw [show (gi b).1=un (0+(m:Int) * 128^0) from q3];simp
 have q1:(gi b).2.1=((vb m).length:Int):=by rw [show (gi b).2.1=((0:Nat):Int)+(vb m).length from q1];simp
 rw [e]
 unfold vi
 rw [Cf,q1]
 exact ⟨rfl,by simpa using q2⟩
theorem xR {k:Nat} {r:List Int} {least:Int} (h0:0<least) (hk:k<2^62) (h:(k:Int) * least≤r.length):gl (vi k++r) least=((k:Int),(((vi k).length:Nat):Int),0):=by
 unfold gl
 rw [wC (sW hk)]
 dsimp only
 rw [if_neg (by simp),if_neg (by omega),if_neg]
 have e:(((vi k++r).length:Nat):Int) - ((vi k).length:Int)=r.length:=by rw [List.length_append];omega
 rw [e]
 have:=(Int.le_ediv_iff_mul_le h0).2 h
 omega
theorem yC {b:List Int} {least:Int} (hb:se b) (h:(gl b least).2.2=0):0≤(gl b least).1∧i64 (gl b least).1∧(gl b least).2.1=(vi (gl b least).1).length∧b=vi (gl b least).1++b.drop (gl b least).2.1.toNat:=by
 have h1:=wS hb
 obtain ⟨h2, -⟩:=tG hb
 unfold gl at h ⊢
 by_cases c1:(gi b).2.2≠0
 ·rw [if_pos c1] at h;exact absurd h c1
 rw [if_neg c1] at h ⊢
 by_cases c2:(gi b).1<0
 ·rw [if_pos c2] at h;simp at h
 rw [if_neg c2] at h ⊢
 by_cases c3:(gi b).1>(b.length - (gi b).2.1) / least
 ·rw [if_pos c3] at h;simp at h
 rw [if_neg c3]
 obtain ⟨q1,q2⟩:=h1 (by simpa using c1)
 exact ⟨by dsimp only;omega,h2,q1,q2⟩
theorem wQ: ∀(l:List Int),l.length≤(l.flatMap vi).length
 |[]=>by simp
 |x::l=>by
  have:=wQ l
  have:=vF x
  simp only [List.flatMap_cons,List.length_append,List.length_cons];omega
theorem wU {b r:List Int}: ∀{l acc:List Int} {a:Int},0≤a→b.drop a.toNat=l.flatMap vi++r→(∀ x∈l,i64 x)→gis l.length b a acc=(acc++l,a+(l.flatMap vi).length,0)
 |[],acc,a,h0,h,_=>by simp [gis]
 |x::l,acc,a,h0,h,hx=>by
  have h1:gi (b.drop a.toNat)=(x,(((vi x).length:Nat):Int),0):=by rw [h,List.flatMap_cons,List.append_assoc];exact wC (hx x (by simp)) _
  show gis (l.length+1) b a acc=_
  rw [gis,h1,if_neg (by simp)]
  dsimp only
  rw [wU (l:=l) (by omega) (by
   rw [show (a+((vi x).length:Int)).toNat=a.toNat+(vi x).length by omega, ←List.drop_drop,h,List.flatMap_cons,List.append_assoc,List.drop_left]) (fun y hy=>hx y (by simp [hy]))]
  simp only [List.append_assoc,List.singleton_append,List.flatMap_cons,List.length_append]
  congr 2
  omega
theorem uA {l r:List Int} (hl:l.length<2^62) (hx: ∀x∈l,i64 x):r6 (vis l++r)=(l,(((vis l).length:Nat):Int),0):=by
 unfold r6 vis
 rw [List.append_assoc,xR (by decide) hl (by have:=wQ l;rw [List.length_append];omega)]
 dsimp only
 rw [if_neg (by simp),Int.toNat_natCast,wU (r:=r) (by omega) (by rw [Int.toNat_natCast,List.drop_left]) hx]
 simp
theorem xC {b:List Int} (hb:se b): ∀{n:Nat} {acc:List Int} {a:Int},0≤a→(gis n b a acc).2.2=0→ ∃l,(gis n b a acc).1=acc++l∧l.length=n∧(∀ x∈l,i64 x)∧(gis n b a acc).2.1=a+(l.flatMap vi).length∧b.drop a.toNat=l.flatMap vi++b.drop (gis n b a acc).2.1.toNat
 |0,acc,a,h0,h=>⟨[],by simp [gis],rfl,by simp,by simp [gis],by simp [gis]⟩
 |n+1,acc,a,h0,h=>by
  have hd:=sq hb a.toNat
  rw [gis] at h ⊢
  by_cases c:(gi (b.drop a.toNat)).2.2≠0
  ·rw [if_pos c] at h;exact absurd h c
  rw [if_neg c] at h ⊢
  obtain ⟨q1,q2⟩:=wS hd (by simpa using c)
  obtain ⟨i1, -⟩:=tG hd
  generalize gi (b.drop a.toNat)=g at *
  obtain ⟨v,u,e⟩:=g
  dsimp only at *
  obtain ⟨l,p1,p2,p3,p4,p5⟩:=xC hb (n:=n) (acc:=acc++[v]) (a:=a+u) (by omega) h
  refine ⟨v::l,?_,by simp [p2],?_,?_,?_⟩
  ·rw [p1];simp
  ·intro x hx
   rcases List.mem_cons.1 hx with rfl|hx
   ·exact i1
   ·exact p3 x hx
  ·rw [p4,List.flatMap_cons,List.length_append];omega
  ·rw [q2,List.drop_drop,show a.toNat+u.toNat=(a+u).toNat by omega,p5,List.flatMap_cons,List.append_assoc]
theorem uz {b:List Int} (hb:se b) (h:(r6 b).2.2=0):(∀ x∈(r6 b).1,i64 x)∧(r6 b).2.1=(vis (r6 b).1).length∧b=vis (r6 b).1++b.drop (r6 b).2.1.toNat:=by
 have hG:=@yC b 1 hb
 unfold r6 at h ⊢
 by_cases c:(gl b 1).2.2≠0
 ·rw [if_pos c] at h;exact absurd h c
 rw [if_neg c] at h ⊢
 obtain ⟨q0, -,q1,q2⟩:=hG (by simpa using c)
 generalize gl b 1=g at *
 obtain ⟨n,u,e⟩:=g
 dsimp only at *
 obtain ⟨l,p1,p2,p3,p4,p5⟩:=xC hb (n:=n.toNat) (acc:=[]) (a:=u) (by omega) h
 rw [List.nil_append] at p1
 rw [p1]
 have hn:((l.length:Nat):Int)=n:=by omega
 refine ⟨p3,?_,?_⟩
 ·rw [p4,vis,hn,List.length_append,q1];omega
 ·rw [vis,hn,List.append_assoc, ←p5];exact q2
end Go.RC
end
section
namespace Go.ST
open Go Go.DL Go.TY
open Go.RC (vi vis vs gi gl r6 i64 se sq sB Y wC xR uA tG uJ wS yC uz sW vQ xG uF tI vF)
def sF (e:RE):List Int:=vs e.var++(vis e.key++vis [e.n,e.at_])
def tj (st:List RE):List Int:=vi st.length++st.flatMap sF
def gb (b:List Int):ByteArray×Int×Int:=if (gl b 1).2.2≠0 then (⟨#[]⟩,0,(gl b 1).2.2) else (nu (((b.drop (gl b 1).2.1.toNat).take (gl b 1).1.toNat).map Y),(gl b 1).2.1+(gl b 1).1,0)
def uX (b:List Int):RE×List Int×Int:=
 if (gb b).2.2≠0 then (⟨⟨#[]⟩,[],0,0⟩,[],(gb b).2.2) else
 if (r6 (b.drop (gb b).2.1.toNat)).2.2≠0 then (⟨⟨#[]⟩,[],0,0⟩,[],(r6 (b.drop (gb b).2.1.toNat)).2.2) else
 let b2:=(b.drop (gb b).2.1.toNat).drop (r6 (b.drop (gb b).2.1.toNat)).2.1.toNat
 if (r6 b2).2.2≠0 then (⟨⟨#[]⟩,[],0,0⟩,[],(r6 b2).2.2) else
 if (r6 b2).1.length≠2 then (⟨⟨#[]⟩,[],0,0⟩,[],6) else
 (⟨(gb b).1,(r6 (b.drop (gb b).2.1.toNat)).1,(r6 b2).1.getD 0 0,(r6 b2).1.getD 1 0⟩,b2.drop (r6 b2).2.1.toNat,0)
def ti:Nat→List Int→List RE→List RE×List Int×Int
 |0,b,acc=>(acc,b,0)
 |n+1,b,acc=>if (uX b).2.2≠0 then ([],[],(uX b).2.2) else ti n (uX b).2.1 (acc++[(uX b).1])
def tK (b:List Int):List RE×Int:=
 if (gi b).2.2≠0 then ([],(gi b).2.2) else if (gi b).1<0 then ([],6) else
 if (ti (gi b).1.toNat (b.drop (gi b).2.1.toNat) []).2.2≠0 then ([],(ti (gi b).1.toNat (b.drop (gi b).2.1.toNat) []).2.2)
 else if (ti (gi b).1.toNat (b.drop (gi b).2.1.toNat) []).2.1≠[] then ([],6) else ((ti (gi b).1.toNat (b.drop (gi b).2.1.toNat) []).1,0)
structure SzE (e:RE):Prop where
 var:e.var.size<2^40
 key:e.key.length<2^40
 keys: ∀x∈e.key,i64 x
 n:i64 e.n
 at_:i64 e.at_
theorem Br {a b:ByteArray} (h:sB a=sB b):a=b:=by
 have key: ∀(x y:List UInt8),x.map (fun b=>(b.toNat:Int))=y.map (fun b=>(b.toNat:Int))→x=y:=by
  intro x
  induction x with
  |nil=>intro y h;cases y with
   |nil=>rfl
   |cons _ _=>simp at h
  |cons a r ih=>intro y h;cases y with
   |nil=>simp at h
   |cons c s=>
    simp only [List.map_cons,List.cons.injEq] at h
    have:a=c:=UInt8.toNat_inj.1 (by have:=h.1;omega)
    rw [this,ih s h.2]
 exact ByteArray.ext (Array.ext' (key _ _ h))
theorem AV (s:ByteArray):nu ((sB s).map Y)=s:=Br (xG _ (vQ s))
theorem BG {s:ByteArray} (h:s.size<2^40) (r:List Int):gb (vs s++r)=(s,(((vs s).length:Nat):Int),0):=by
 unfold gb vs
 rw [List.append_assoc,xR (by decide) (by omega) (by rw [List.length_append,uF];omega)]
 dsimp only
 rw [if_neg (by simp),Int.toNat_natCast,Int.toNat_natCast,List.drop_left, ←uF,List.take_left,AV]
 simp only [List.length_append,uF,Int.natCast_add]
theorem zk {e:RE} (h:SzE e) (r:List Int):uX (sF e++r)=(e,r,0):=by
 unfold uX sF
 rw [List.append_assoc,List.append_assoc,BG h.var]
 dsimp only
 rw [if_neg (by simp),Int.toNat_natCast,List.drop_left,uA (by have:=h.key;omega) h.keys]
 dsimp only
 rw [if_neg (by simp),Int.toNat_natCast,List.drop_left,uA (by simp) (by simp;exact ⟨h.n,h.at_⟩)]
 dsimp only
 rw [if_neg (by simp),if_neg (by simp),Int.toNat_natCast,List.drop_left]
 rfl
theorem wL: ∀{st acc:List RE} {r:List Int},(∀ e∈st,SzE e)→ti st.length (st.flatMap sF++r) acc=(acc++st,r,0)
 |[],acc,r,_=>by simp [ti]
 |e::st,acc,r,h=>by
  show ti (st.length+1) _ _=_
  rw [ti,List.flatMap_cons,List.append_assoc,zk (h e (by simp)),if_neg (by simp)]
  dsimp only
  rw [wL fun x hx=>h x (by simp [hx])]
  simp
theorem zl {st:List RE} (h: ∀e∈st,SzE e) (hl:st.length<2^40):tK (tj st)=(st,0):=by
 unfold tK tj
 rw [wC (sW (by omega))]
 dsimp only
 have:=wL (acc:=[]) (r:=[]) h
 rw [List.append_nil,List.nil_append] at this
 rw [if_neg (by simp),if_neg (by omega),Int.toNat_natCast,Int.toNat_natCast,List.drop_left,this]
 dsimp only
 rw [if_neg (by simp),if_neg (by simp)]
end Go.ST
end
section
namespace Go.Proofs
open Go.Shelf
def Tryz.vu:Go.Shelf.Ren:=⟨fun|4=>137|n=>n,fun|22=>98|25=>5|3=>3|4=>4|9=>9|20=>20|0=>0|n=>n,fun|n=>n⟩
theorem Tryz.xq:Go.Proofs.Lays8.n4 Tryz.prog Tryz.vu:={
 mixed:=by kernel_rfl
 f4:=⟨Tryz.f137.name,by decide,Tryz.func137.trans (congrArg some (by kernel_rfl))⟩
 t0:=Tryz.underlying0
 a0:=Tryz.isAgg0
 z0:=Tryz.sizeOf0
 v0:=Tryz.zeroValue0
 t3:=Tryz.underlying3
 a3:=Tryz.isAgg3
 z3:=Tryz.sizeOf3
 v3:=Tryz.zeroValue3
 t4:=Tryz.underlying4
 a4:=Tryz.isAgg4
 z4:=Tryz.sizeOf4
 v4:=Tryz.zeroValue4
 t9:=Tryz.underlying9
 a9:=Tryz.isAgg9
 z9:=Tryz.sizeOf9
 v9:=Tryz.zeroValue9
 t20:=Tryz.underlying20
 a20:=Tryz.isAgg20
 z20:=Tryz.sizeOf20
 v20:=Tryz.zeroValue20
 t22:=Tryz.underlying98
 a22:=Tryz.isAgg98
 z22:=Tryz.sizeOf98
 v22:=Tryz.zeroValue98 }
end Go.Proofs
end
section
namespace Go.ST
open Go Go.DL Go.MM Go.Proofs
open Go.TY hiding Fd
open Go.RC (vi vis vs gi gl r6 i64 se Y)
theorem BK:(Tryz.prog.info? 5).map (fun i=>(i.zero.map (fun z=>z.cells.size),i.size,i.bytes))=some (some 1,1,1):=by kernel_rfl
theorem Ar (n:Nat) (h:n<2^40):cW Tryz.prog 137 [.nil,I n] 5 1 [] []:=by
 have hi:=BK
 cases hj:Tryz.prog.info? 5 with
 |none=>rw [hj] at hi;cases hi
 |some j=>
  rw [hj] at hi
  simp only [Option.map_some,Option.some.injEq,Prod.mk.injEq] at hi
  obtain ⟨h1,h2,h3⟩:=hi
  cases hz:j.zero with
  |none=>rw [hz] at h1;cases h1
  |some z=>
   rw [hz] at h1
   have h1:z.cells.size=1:=by simpa using h1
   have:=qH Tryz.xq (i0:=j) (z:=z) hj hz (by omega) (by omega) n (by rw [h3];omega) (by omega) (cC Tryz.func137 rfl rfl)
   rw [h2] at this
   exact this
abbrev bT (l:List Int):T:=.slice 1 (l.map Y)
def sM (ls:List (List Int)):Nat:=(ls.map List.length).sum
theorem vz {ls:List (List Int)} {k:Nat} (h:k<ls.length):sM (ls.take (k+1))=sM (ls.take k)+ls[k].length:=by
 unfold sM
 rw [List.take_succ_eq_append_getElem h,List.map_append,List.sum_append];simp
theorem uZ (ls:List (List Int)) (k:Nat):sM (ls.take k)≤sM ls:=by
 conv=>rhs;rw [← List.take_append_drop k ls]
 unfold sM
 rw [List.map_append,List.sum_append];omega
theorem xX (ls:List (List Int)):ls.flatten.length=sM ls:=by unfold sM;rw [List.length_flatten]
theorem A8 {ls:List (List Int)} {j:Nat} {l:List Int} (h:ls[j]? =some l):((ls.map bT)[j]?.getD .nil)=bT l:=by
 rw [List.getElem?_map,h];rfl
theorem yX (ls:List (List Int)) (hl:ls.length<2^20) (hn:sM ls<2^30):DCalls Tryz.prog 100 [.slice 1 (ls.map bT)] (bT ls.flatten):=by
 refine qQ (rs:=[.tmp 2]) mixed Tryz.func100 Go.ST6.CL rfl rfl rfl (r:=[bT _]) (nlZ rfl) ?_
 skip
 refine qY 0 (α:=Nat) (β:=Unit) (fun k=>{sl:=[(0,.t (.slice 1 (ls.map bT))),(2,.t .nil),(3,.t (I (sM (ls.take k)))),(9,.t (.slice 1 (ls.map bT))),(10,.t (I ls.length)),(11,.t (I k))],bx:=[]})
  (fun k=>k≤ls.length) (fun k=>ls.length - k) (fun _=>{sl:=[(0,.t (.slice 1 (ls.map bT))),(2,.t .nil),(3,.t (I (sM ls)))],bx:=[]}) (fun _=>True) 0 (by omega) ?_ ?_ ?_
 ·repeat' (first|((refine leI ?_;simp;done))|exact trivial|exact LeV.same _|exact rfl|exact fun _ _ _=>trivial|refine And.intro ?_ ?_)
 ·rintro k hk
  rcases Nat.lt_or_ge k ls.length with h2|h2
  ·have hke:ls[k]? =some ls[k]:=ggZ h2
   have hst:=vz h2
   have hle:=uZ ls k
   have hle2:=uZ ls (k+1)
   generalize ls[k]=l at hke hst
   have hib:0≤(k:Int)∧(k:Int)<((ls.map bT).length:Int):=by rw [List.length_map];omega
   have hel:(ls.map bT)[((k:Int)).toNat]?.getD .nil=bT l:=A8 (by rw [Int.toNat_natCast];exact hke)
   have hw:IntKind.i64.wrap ((sM (ls.take k):Int)+(((l.map Y).length:Nat):Int))=(sM (ls.take (k+1)):Int):=by
    rw [List.length_map,hst,mQ (by omega) (by omega)];push_cast;rfl
   have hw2:=hw.symm
   have hneg: ¬IntKind.i64.wrap ((sM (ls.take k):Int)+(((l.map Y).length:Nat):Int))<0:=by rw [hw];omega
   repeat' ((conv=>whnf);first|refine qx (by omega) ?_|(refine nv_ (bT l) (by first|exact hel|fail) ?_)|refine qw hneg ?_|refine nT_ ?_|(refine And.intro (by first|exact hib|fail) ?_)|refine aS ?_|fail)
   exact ⟨k+1,by omega,by omega,by repeat' (first|(exact leI hw2)|exact trivial|exact LeV.same _|exact rfl|exact fun _ _ _=>trivial|exact lI|refine And.intro ?_ ?_)⟩
  ·have:k=ls.length:=by omega
   subst this
   repeat' ((conv=>whnf);first|refine qw (by omega) ?_|refine aS ?_|fail)
   exact ⟨(),trivial,by repeat' (first|((refine leI ?_;rw [List.take_length]))|exact trivial|exact LeV.same _|exact rfl|exact fun _ _ _=>trivial|refine And.intro ?_ ?_)⟩
 rintro - -
 have hG:=Ar (sM ls) (by omega)
 repeat' ((conv=>whnf);first|refine rA rfl hG ?_|fail)
 refine qY 2 (α:=Nat×Nat) (β:=Nat) (fun q=>{sl:=[(2,.t .nil),(6,.own q.1 5 1 ((ls.take q.2).flatten.map Y)),(25,.t (.slice 1 (ls.map bT))),(26,.t (I ls.length)),(27,.t (I q.2))],bx:=[]})
  (fun q=>q.2≤ls.length∧(q.1=24∨q.1=33)) (fun q=>ls.length - q.2) (fun q=>{sl:=[(2,.t .nil),(6,.own q 5 1 (ls.flatten.map Y))],bx:=[]}) (fun q=>q=24∨q=33) (24,0) (by simp) ?_ ?_ ?_
 ·repeat' (first|((refine leI ?_;simp;done))|exact trivial|exact LeV.same _|exact rfl|exact fun _ _ _=>trivial|refine And.intro ?_ ?_)
 ·rintro ⟨q,k⟩ ⟨hk,hq⟩
  dsimp only at hk hq
  rcases Nat.lt_or_ge k ls.length with h2|h2
  ·have hke:ls[k]? =some ls[k]:=ggZ h2
   have hst:=vz h2
   have hfl:(ls.take (k+1)).flatten=(ls.take k).flatten++ls[k]:=by rw [List.take_succ_eq_append_getElem h2,List.flatten_append];simp
   have hle:=uZ ls (k+1)
   have hfn:=xX (ls.take k)
   generalize ls[k]=l at hke hst hfl
   have hib:0≤(k:Int)∧(k:Int)<((ls.map bT).length:Int):=by rw [List.length_map];omega
   have hel:(ls.map bT)[((k:Int)).toNat]?.getD .nil=bT l:=A8 (by rw [Int.toNat_natCast];exact hke)
   have hroom:(((ls.take k).flatten.map Y).length+(l.map Y).length) * 1≤140737488355328:=by simp only [List.length_map];omega
   rcases hq with rfl|rfl
   all_goals repeat' ((conv=>whnf);first|refine qx (by omega) ?_|(refine nv_ (bT l) (by first|exact hel|fail) ?_)|refine nT_ ?_|(refine And.intro (by first|exact hib|exact hroom|fail) ?_)|refine aS ?_|fail)
   all_goals refine ⟨(33,k+1),⟨by dsimp only;omega,.inr rfl⟩,by dsimp only;omega,?_⟩
   all_goals repeat' (first|((refine rH ?_;rw [hfl,List.map_append]))|exact trivial|exact LeV.same _|exact rfl|exact fun _ _ _=>trivial|exact lI|refine And.intro ?_ ?_)
  ·have:k=ls.length:=by omega
   subst this
   repeat' ((conv=>whnf);first|refine qw (by omega) ?_|refine aS ?_|fail)
   exact ⟨q,hq,by repeat' (first|((refine rH ?_;rw [List.take_length]))|exact trivial|exact LeV.same _|exact rfl|exact fun _ _ _=>trivial|refine And.intro ?_ ?_)⟩
 rintro q hq
 repeat' ((conv=>whnf);first|exact trivial|refine aS ?_|fail)
end Go.ST
end
section
namespace Go.ST
open Go Go.DL Go.MM Go.Proofs
open Go.TY hiding Fd
open Go.RC (vi vis vs gi gl r6 i64 se Y sW vj xA wO)
theorem wM (st:List RE) (i:Nat):((st.take i).flatMap sF).length≤(st.flatMap sF).length:=by
 conv=>rhs;rw [← List.take_append_drop i st,List.flatMap_append,List.length_append]
 omega
theorem zI (st:List RE) (hz: ∀e∈st,SzE e) (hlen:st.length<2^28) (hl:(tj st).length<2^28):DCalls Tryz.prog 46 [esT st] (bT (tj st)):=by
 refine qQ (rs:=[.tmp 2]) mixed Tryz.func46 Go.ST6.l46 rfl rfl rfl (r:=[bT _]) (nlZ rfl) ?_
 have hn:((st.map rM).length:Int)=st.length:=by rw [List.length_map]
 have hI:=(vj ((st.map rM).length:Int) (by rw [hn];exact sW (by omega))).rC
 rw [hn] at hI
 have hIx:I ((st.map rM).length:Int)=I (st.length:Int):=by rw [hn]
 rw [← hn] at hI
 repeat' ((conv=>whnf);first|refine rD _ (hI) ?_|fail)
 have e1:bT (vi ((st.map rM).length:Int))=bT (vi (st.length:Int)++(st.take 0).flatMap sF):=by rw [hn];simp
 refine qY 0 (α:=Nat) (β:=Unit) (fun i=>{sl:=[(3,.t (bT (vi (st.length:Int)++(st.take i).flatMap sF))),(9,.t (esT st)),(10,.t (I st.length)),(11,.t (I i))],bx:=[]})
  (fun i=>i≤st.length) (fun i=>st.length - i) (fun _=>{sl:=[(3,.t (bT (tj st)))],bx:=[]}) (fun _=>True) 0 (Nat.zero_le _) ?_ ?_ ?_
 ·repeat' (first|(exact leI hn.symm)|(exact leT e1.symm)|exact trivial|exact LeV.same _|exact rfl|exact fun _ _ _=>trivial|refine And.intro ?_ ?_)
 ·rintro i hi
  rcases Nat.lt_or_ge i st.length with h|h
  ·have hlt:(i:Int)<(st.length:Int):=by omega
   have hnx:((i+1:Nat):Int)=IntKind.wrap .i64 ((i:Int)+1):=by rw [mQ] <;> omega
   have hg:(st.map rM)[((i:Int)).toNat]?.getD .nil= .agg (rL st[i]):=by rw [Int.toNat_natCast];exact rU h
   have hb0:0≤(i:Int)∧(i:Int)<((st.map rM).length:Int):=by omega
   have hsz:=hz _ (List.getElem_mem h)
   have hle:=wM st (i+1)
   have hfl:(st.take (i+1)).flatMap sF=(st.take i).flatMap sF++sF st[i]:=by rw [List.take_succ_eq_append_getElem h,List.flatMap_append];simp
   have hlen2:(tj st).length=(vi (st.length:Int)).length+(st.flatMap sF).length:=by unfold tj;rw [List.length_append]
   rw [hfl,List.length_append] at hle
   generalize st[i]=x at *
   obtain ⟨xv,xk,xn,xa⟩:=x
   have hS:=(xA xv hsz.var).rC
   have hK:=(wO xk hsz.key hsz.keys).rC
   have h2: ∀y∈[xn,xa],i64 y:=fun y hy=>by
    simp only [List.mem_cons,List.not_mem_nil,or_false] at hy
    rcases hy with hy|hy
    ·rw [hy];exact hsz.n
    ·rw [hy];exact hsz.at_
   have hT:=(wO [xn,xa] (by simp) h2).rC
   have hC:=yX [vi (st.length:Int)++(st.take i).flatMap sF,vs xv,vis xk,vis [xn,xa]] (by simp) (by
    rw [show sF ⟨xv,xk,xn,xa⟩=vs xv++(vis xk++vis [xn,xa]) from rfl,List.length_append,List.length_append] at hle
    simp only [sM,List.map_cons,List.map_nil,List.sum_cons,List.sum_nil,List.length_append]
    omega)
   have e2:bT (vi (st.length:Int)++(st.take (i+1)).flatMap sF)=bT [vi (st.length:Int)++(st.take i).flatMap sF,vs xv,vis xk,vis [xn,xa]].flatten:=by
    rw [hfl]
    unfold sF
    simp [List.flatten_cons,List.append_assoc]
   have hmu:st.length - (i+1)<st.length - i:=by omega
   clear hfl hlen2 hle
   repeat' ((conv=>whnf);first|refine qx hlt ?_|(refine nv_ (.agg (rL ⟨xv,xk,xn,xa⟩)) (by first|exact hg|fail) ?_)|refine rD _ (hS) ?_|refine rD _ (hK) ?_|refine rD _ (hT) ?_|refine rD _ (hC) ?_|(exact ⟨i+1,h,hmu,by (repeat' (first|(exact leI hnx)|(exact leT e2)|exact trivial|exact LeV.same _|exact rfl|exact fun _ _ _=>trivial|refine And.intro ?_ ?_));done⟩)|refine nT_ ?_|(refine And.intro (by first|exact hb0|exact rN _|fail) ?_)|refine aS ?_|fail)
  ·have hlt: ¬(i:Int)<(st.length:Int):=by omega
   have e2:bT (tj st)=bT (vi (st.length:Int)++(st.take i).flatMap sF):=by rw [List.take_of_length_le h];rfl
   repeat' ((conv=>whnf);first|refine qw hlt ?_|(exact ⟨(),trivial,by (repeat' (first|(exact leT e2)|exact trivial|exact rfl|exact fun _ _ _=>trivial|refine And.intro ?_ ?_));done⟩)|refine aS ?_|fail)
 ·rintro - -
  repeat' ((conv=>whnf);first|exact trivial|refine aS ?_|fail)
end Go.ST
end
section
namespace Go.ST
open Go Go.DL Go.MM Go.Proofs
open Go.TY hiding Fd
open Go.RC (vi vis vs gi gl r6 i64 se Y sW gT gsT um tT tO tG uJ sq)
theorem xu: ∀l:List Int,jq (l.map Y)
 |[]=>trivial
 |_::l=>xu l
theorem Di (b:List Int) (u n:Nat):((b.map Y).take (u+n)).drop u=((b.drop u).take n).map Y:=by
 rw [← List.map_take, ←List.map_drop,List.drop_take,show u+n - u=n by omega]
theorem yo (b:List Int) (hb:se b) (hl:b.length<2^40):DCalls Tryz.prog 97 [bT b] (.tup [.str (gb b).1,I (gb b).2.1,I (gb b).2.2]):=by
 refine qQ (rs:=[.tmp 2,.tmp 3,.tmp 4]) mixed Tryz.func97 Go.ST6.l97 rfl rfl rfl (r:=[.str _,I _,I _]) (nlZ rfl) ?_
 have hL:=um b 1 hb (by omega) (by decide) (by decide)
 obtain ⟨g1,g2,g3,g4⟩:=uJ hb (least:=1) (by decide)
 unfold gb
 generalize gl b 1=q at *
 obtain ⟨n,u,e⟩:=q
 dsimp only at g1 g2 g3 g4 ⊢
 by_cases c:e≠0
 ·rw [if_pos c]
  repeat' ((conv=>whnf);first|exact trivial|refine rD _ (hL) ?_|refine qB c ?_|refine rix ?_|refine aS ?_|fail)
 ·rw [if_neg c]
  have c0:e=0:=by omega
  subst c0
  obtain ⟨n,rfl⟩:=Int.eq_ofNat_of_zero_le g1
  obtain ⟨u,rfl⟩:=Int.eq_ofNat_of_zero_le g2
  have hw:IntKind.wrap .i64 ((u:Int)+(n:Int))=((u+n:Nat):Int):=by rw [mQ (by omega) (by omega)];omega
  have hsl:T.slice 1 (((b.map Y).take (IntKind.wrap .i64 ((u:Int)+(n:Int))).toNat).drop ((u:Int)).toNat)=T.slice 1 (((b.drop u).take n).map Y):=by
   rw [hw,Int.toNat_natCast,Int.toNat_natCast,Di]
  have hbd:0≤(u:Int)∧(u:Int)≤IntKind.wrap .i64 ((u:Int)+(n:Int))∧IntKind.wrap .i64 ((u:Int)+(n:Int))≤((b.map Y).length:Int):=by rw [hw,List.length_map];omega
  have hu8:=xu ((b.drop u).take n)
  have hr:I ((u:Int)+(n:Int))=I (IntKind.wrap .i64 ((u:Int)+(n:Int))):=by rw [hw];congr 1
  rw [Int.toNat_natCast,Int.toNat_natCast,hr]
  repeat' ((conv=>whnf);first|exact trivial|refine rD _ (hL) ?_|(refine nv_ (.slice 1 (((b.drop u).take n).map Y)) (by first|exact hsl|fail) ?_)|refine nT_ ?_|refine aN0 ?_|refine rix ?_|(refine And.intro (by first|exact hbd|exact hu8|fail) ?_)|refine aS ?_|fail)
end Go.ST
end
section
namespace Go.ST9
open Go Go.DL Go.Proofs
noncomputable def c45:bc:=(.seq (.region [oo 2 (.mov (.const .nil)),oo 3 (.mov (Kc 0))] []) (.seq (.region [mv 16 0,oo 17 (.call 96 [tm 16]),mv 15 17,oo 18 (.ext (tm 15) 0),oo 19 (.ext (tm 15) 1),oo 20 (.ext (tm 15) 2),mv 4 18,mv 5 19,mv 6 20] []) (.seq (.block 0 (.seq (.region [mv 22 6,oo 23 (.bin .neq (tm 22) (Kc 0)),mv 21 23] []) (.cond (tm 21) (.seq (.region [mv 24 6,oo 2 (.mov (.const .nil)),mv 3 24] []) .ret) (.seq (.region [mv 26 4,oo 27 (.bin .lss (tm 26) (Kc 0)),mv 25 27] []) (.cond (tm 25) (.seq (.region [oo 2 (.mov (.const .nil)),oo 3 (.mov (Kc 6))] []) .ret) .skip))))) (.seq (.region [mv 28 0,mv 29 5,oo 30 (.slice 1 (tm 28) (some (tm 29)) none),mv 0 30] []) (.seq (.region [oo 7 (.mov (.const .nil))] []) (.seq (.seq (.region [mv 31 4,oo 32 (.mov (Kc 0))] []) (.block 1 (.loop (.seq (.region [oo 33 (.bin .lss (tm 32) (tm 31))] []) (.seq (.cond (tm 33) .skip (.exit 1)) (.seq (.block 2 (.seq (.cut (.region [mv 35 0,oo 36 (.call 97 [tm 35]),mv 34 36,oo 37 (.ext (tm 34) 0),oo 38 (.ext (tm 34) 1),oo 39 (.ext (tm 34) 2),mv 8 37,mv 9 38,mv 10 39] [])) (.seq (.seq (.region [mv 40 10,oo 41 (.bin .neq (tm 40) (Kc 0))] []) (.cond (tm 41) (.seq (.region [mv 42 10,oo 2 (.mov (.const .nil)),mv 3 42] []) .ret) .skip)) (.seq (.cut (.region [mv 44 0,mv 45 9,oo 46 (.slice 1 (tm 44) (some (tm 45)) none),oo 47 (.call 98 [tm 46]),mv 43 47,oo 48 (.ext (tm 43) 0),oo 49 (.ext (tm 43) 1),oo 50 (.ext (tm 43) 2),mv 11 48,mv 12 49,mv 10 50] [])) (.seq (.seq (.region [mv 51 10,oo 52 (.bin .neq (tm 51) (Kc 0))] []) (.cond (tm 52) (.seq (.region [mv 53 10,oo 2 (.mov (.const .nil)),mv 3 53] []) .ret) .skip)) (.seq (.cut (.region [mv 55 0,mv 56 9,mv 57 12,oo 58 (.bin .add (tm 56) (tm 57)),oo 59 (.slice 1 (tm 55) (some (tm 58)) none),oo 60 (.call 98 [tm 59]),mv 54 60,oo 61 (.ext (tm 54) 0),oo 62 (.ext (tm 54) 1),oo 63 (.ext (tm 54) 2),mv 13 61,mv 14 62,mv 10 63] [])) (.seq (.block 3 (.seq (.region [mv 65 10,oo 66 (.bin .neq (tm 65) (Kc 0)),mv 64 66] []) (.cond (tm 64) (.seq (.region [mv 67 10,oo 2 (.mov (.const .nil)),mv 3 67] []) .ret) (.seq (.region [mv 69 13,ln 70 69,oo 71 (.bin .neq (tm 70) (Kc 2)),mv 68 71] []) (.cond (tm 68) (.seq (.region [oo 2 (.mov (.const .nil)),oo 3 (.mov (Kc 6))] []) .ret) .skip))))) (.seq (.region [mv 72 7,mv 73 8,mv 74 11,mv 75 13,oo 76 (.idxL 1 (tm 75) (Kc 0)),ld 77 76,mv 78 13,oo 79 (.idxL 1 (tm 78) (Kc 1)),ld 80 79,⟨some 81,.build [S0,.nil,Z0,Z0] [(0,1,(tm 73)),(1,1,(tm 74)),(2,1,(tm 77)),(3,1,(tm 80))],none,[]⟩,⟨some 82,.buildT 4 1 [S0,.nil,Z0,Z0] [(0,(tm 81))],none,[]⟩,oo 83 (.append 25 64 4 56 (tm 72) (tm 82)),mv 7 83] []) (.region [mv 84 0,mv 85 9,mv 86 12,oo 87 (.bin .add (tm 85) (tm 86)),mv 88 14,oo 89 (.bin .add (tm 87) (tm 88)),oo 90 (.slice 1 (tm 84) (some (tm 89)) none),mv 0 90] []))))))))) (.region [oo 91 (.bin .add (tm 32) (Kc 1)),mv 32 91] []))))))) (.seq (.seq (.region [mv 92 0,ln 93 92,oo 94 (.bin .gtr (tm 93) (Kc 0))] []) (.cond (tm 94) (.seq (.region [oo 2 (.mov (.const .nil)),oo 3 (.mov (Kc 6))] []) .ret) .skip)) (.seq (.region [mv 95 7,mv 2 95,oo 3 (.mov (Kc 0))] []) .ret))))))))
theorem l45:(Tryz.f45.body.bind (bp Tryz.prog 96 [6000010,6000013,6000016]))=some c45:=by kernel_rfl
end Go.ST9
end
section
namespace Go.ST
open Go Go.DL Go.MM Go.Proofs
open Go.TY hiding Fd
open Go.RC (vi vis vs gi gl r6 i64 se Y sW gT gsT um tT tO tG uJ sq uz vF)
theorem BF {b:List Int} (hb:se b) (h:(gb b).2.2=0):0≤(gb b).2.1∧(gb b).2.1≤b.length:=by
 obtain ⟨g1,g2,g3,g4⟩:=uJ hb (least:=1) (by decide)
 unfold gb at h ⊢
 by_cases c:(gl b 1).2.2≠0
 ·rw [if_pos c] at h;exact absurd h c
 ·rw [if_neg c]
  exact ⟨by dsimp only;omega,by dsimp only;omega⟩
theorem wT {b:List Int} (hb:se b) (h:(r6 b).2.2=0):1≤(r6 b).2.1∧(r6 b).2.1≤b.length:=by
 obtain ⟨h1,h2,h3⟩:=uz hb h
 have hp:1≤(vis (r6 b).1).length:=by
  unfold vis
  rw [List.length_append]
  have:=vF ((r6 b).1.length:Int)
  omega
 have hl:=congrArg List.length h3
 rw [List.length_append] at hl
 omega
abbrev CK (x:List RE×Int):T:=.tup [if x.2≠0 then .nil else esT x.1,I x.2]
theorem vh (b:List Int) (u:Nat):((b.map Y).take ((((b.map Y).length:Nat):Int)).toNat).drop u=(b.drop u).map Y:=by
 rw [Int.toNat_natCast,List.take_length,List.map_drop]
theorem zH (b:List Int) (hb:se b) (hl:b.length<2^40):DCalls Tryz.prog 45 [bT b] (CK (tK b)):=by
 have hG:=tO b hb (by omega)
 obtain ⟨⟨q0,q0'⟩,q1,q2,q3,q4,q5⟩:=tG hb
 have main: ∀(res:T) (er:Int),((tK b).2≠0→res= .nil∧er=(tK b).2)→((tK b).2=0→res=esT (tK b).1∧er=0)→DCalls Tryz.prog 45 [bT b] (.tup [res,I er]):=fun res er hE hO=>by
  refine qQ (rs:=[.tmp 2,.tmp 3]) mixed Tryz.func45 Go.ST9.l45 rfl rfl rfl (r:=[res,I er]) (nlZ rfl) ?_
  unfold tK at hE hO
  generalize gi b=g at *
  obtain ⟨n,u,e⟩:=g
  dsimp only at q0 q0' q1 q2 q3 q4 q5 hE hO hG
  by_cases c0:e≠0
  ·rw [if_pos c0] at hE hO
   obtain ⟨rfl,rfl⟩:=hE c0
   repeat' ((conv=>whnf);first|exact trivial|refine rD _ (hG) ?_|refine qB c0 ?_|refine rix ?_|refine aS ?_|fail)
  rw [if_neg c0] at hE hO
  have e0:e=0:=by omega
  by_cases c1:n<0
  ·rw [if_pos c1] at hE hO
   obtain ⟨rfl,rfl⟩:=hE (by decide)
   repeat' ((conv=>whnf);first|exact trivial|refine rD _ (hG) ?_|refine qA e0 ?_|refine qx c1 ?_|refine rix ?_|refine aS ?_|fail)
  rw [if_neg c1] at hE hO
  obtain ⟨n,rfl⟩:=Int.eq_ofNat_of_zero_le (show 0≤n by omega)
  obtain ⟨u,rfl⟩:=Int.eq_ofNat_of_zero_le q1
  rw [Int.toNat_natCast,Int.toNat_natCast] at hE hO
  obtain ⟨D,hD⟩: ∃D,D=ti n (b.drop u) []:=⟨_,rfl⟩
  rw [← hD] at hE hO
  have hbd:0≤(u:Int)∧(u:Int)≤((b.map Y).length:Int)∧((b.map Y).length:Int)≤((b.map Y).length:Int):=by rw [List.length_map];omega
  have hsl:T.slice 1 (((b.map Y).take ((((b.map Y).length:Nat):Int)).toNat).drop ((u:Int)).toNat)=bT (b.drop u):=by
   rw [Int.toNat_natCast,vh]
  have hDe:D.2.2≠0→res= .nil∧er=D.2.2:=fun h=>by
   have:=hE (by rw [if_pos h];exact h)
   rw [if_pos h] at this
   exact this
  have hD6:D.2.2=0→D.2.1≠[]→res= .nil∧er=6:=fun h h2=>by
   have:=hE (by rw [if_neg (by simpa using h),if_pos h2];decide)
   rw [if_neg (by simpa using h),if_pos h2] at this
   exact this
  have hDo:D.2.2=0→D.2.1=[]→res=esT D.1∧er=0:=fun h h2=>by
   have:=hO (by rw [if_neg (by simpa using h),if_neg (by simpa using h2)])
   rw [if_neg (by simpa using h),if_neg (by simpa using h2)] at this
   exact this
  clear hE hO
  have hbl:(b.drop u).length≤b.length:=by rw [List.length_drop];omega
  repeat' ((conv=>whnf);first|refine rD _ (hG) ?_|refine qA e0 ?_|refine qw c1 ?_|(refine nv_ (bT (b.drop u)) (by first|exact hsl|fail) ?_)|(refine And.intro (by first|exact hbd|fail) ?_)|refine aS ?_|fail)
  refine qY 1 (α:=Nat×List Int×List RE) (β:=List Int×List RE) (fun p=>{sl:=[(0,.t (bT p.2.1)),(7,.own 83 64 4 (p.2.2.map rM)),(31,.t (I n)),(32,.t (I p.1))],bx:=[]})
   (fun p=>p.1≤n∧se p.2.1∧p.2.2.length+p.2.1.length≤b.length∧ti (n - p.1) p.2.1 p.2.2=D) (fun p=>n - p.1)
   (fun p=>{sl:=[(0,.t (bT p.1)),(7,.own 83 64 4 (p.2.map rM))],bx:=[]}) (fun p=>D=(p.2,p.1,0)) (0,b.drop u,[]) ⟨Nat.zero_le _,sq hb _,by simp,hD.symm⟩ ?_ ?_ ?_
  ·repeat' (first|exact trivial|exact LeV.same _|exact rfl|exact fun _ _ _=>trivial|exact LeV.nil _ _ _|refine And.intro ?_ ?_)
  ·rintro ⟨i,r,acc⟩ ⟨hi,hr,hal,hdec⟩
   dsimp only at hi hr hal hdec
   rcases Nat.lt_or_ge i n with h|h
   ·have hlt:(i:Int)<(n:Int):=by omega
    have hnx:((i+1:Nat):Int)=IntKind.wrap .i64 ((i:Int)+1):=by rw [mQ] <;> omega
    rw [show n - i=(n - (i+1))+1 by omega,ti] at hdec
    have hB:=yo r hr (by omega)
    have hbk:=@BF r hr
    unfold uX at hdec
    generalize gb r=g1 at *
    obtain ⟨v,f,e1⟩:=g1
    dsimp only at hB hbk hdec
    clear hG hsl hbd
    repeat' ((conv=>whnf);first|refine qx hlt ?_|refine aS ?_|fail)
    refine rv (β:=Unit) (fun _=>{sl:=[(0,.t (bT r)),(7,.own 83 64 4 (acc.map rM)),(8,.t (.str v)),(9,.t (I f)),(10,.t (I e1)),(31,.t (I n)),(32,.t (I i))],bx:=[]}) (fun _=>True) ?_ ?_
    ·repeat' ((conv=>whnf);first|refine rD _ (hB) ?_|(exact ⟨(),trivial,by (repeat' (first|exact trivial|exact LeV.same _|exact rfl|exact fun _ _ _=>trivial|refine And.intro ?_ ?_));done⟩)|fail)
    rintro _ _
    clear hB
    by_cases d1:e1≠0
    ·rw [if_pos d1,if_pos d1] at hdec
     obtain ⟨rfl,rfl⟩:=hDe (by rw [← hdec];exact d1)
     rw [← hdec]
     repeat' ((conv=>whnf);first|exact trivial|refine qB d1 ?_|refine rix ?_|refine aS ?_|fail)
    have d1':e1=0:=by omega
    obtain ⟨f1,f2⟩:=hbk d1'
    obtain ⟨f,rfl⟩:=Int.eq_ofNat_of_zero_le f1
    rw [if_neg d1,Int.toNat_natCast] at hdec
    have hI:=tT (r.drop f) (sq hr _) (by rw [List.length_drop];omega)
    have hik:=@wT (r.drop f) (sq hr _)
    have hb1:0≤(f:Int)∧(f:Int)≤((r.map Y).length:Int)∧((r.map Y).length:Int)≤((r.map Y).length:Int):=by rw [List.length_map];omega
    have hs1:T.slice 1 (((r.map Y).take ((((r.map Y).length:Nat):Int)).toNat).drop ((f:Int)).toNat)=bT (r.drop f):=by
     rw [Int.toNat_natCast,vh]
    generalize hg2:r6 (r.drop f)=g2 at *
    obtain ⟨ks,s2,e2⟩:=g2
    dsimp only at hik hdec
    obtain ⟨kt,hkt⟩: ∃kt:T,(e2≠0→kt= .nil)∧(e2=0→kt= .slice 1 (ks.map I)):=⟨if e2≠0 then .nil else .slice 1 (ks.map I),fun h=>if_pos h,fun h=>if_neg (by simpa using h)⟩
    have hI:DCalls Tryz.prog 98 [bT (r.drop f)] (.tup [kt,I s2,I e2]):=by
     have e:gsT (ks,s2,e2)= .tup [kt,I s2,I e2]:=by
      show T.tup [if e2≠0 then .nil else _,_,_]=_
      by_cases d:e2=0
      ·rw [if_neg (by simpa using d),hkt.2 d]
      ·rw [if_pos d,hkt.1 d]
     rw [← e];exact hI
    repeat' ((conv=>whnf);first|refine qA d1' ?_|refine aS ?_|fail)
    refine rv (β:=Unit) (fun _=>{sl:=[(0,.t (bT r)),(7,.own 83 64 4 (acc.map rM)),(8,.t (.str v)),(9,.t (I f)),(10,.t (I e2)),(11,.t kt),(12,.t (I s2)),(31,.t (I n)),(32,.t (I i))],bx:=[]}) (fun _=>True) ?_ ?_
    ·repeat' ((conv=>whnf);first|(refine nv_ (bT (r.drop f)) (by first|exact hs1|fail) ?_)|refine rD _ (hI) ?_|(exact ⟨(),trivial,by (repeat' (first|exact trivial|exact LeV.same _|exact rfl|exact fun _ _ _=>trivial|refine And.intro ?_ ?_));done⟩)|(refine And.intro (by first|exact hb1|fail) ?_)|fail)
    rintro _ _
    clear hI hs1 hb1
    by_cases d2:e2≠0
    ·rw [if_pos d2,if_pos d2] at hdec
     obtain ⟨rfl,rfl⟩:=hDe (by rw [← hdec];exact d2)
     rw [← hdec]
     repeat' ((conv=>whnf);first|exact trivial|refine qB d2 ?_|refine rix ?_|refine aS ?_|fail)
    have d2':e2=0:=by omega
    rw [hkt.2 d2']
    obtain ⟨k1,k2⟩:=hik d2'
    rw [List.length_drop] at k2
    obtain ⟨s2,rfl⟩:=Int.eq_ofNat_of_zero_le (show 0≤s2 by omega)
    rw [if_neg d2,Int.toNat_natCast] at hdec
    have hr3:se ((r.drop f).drop s2):=sq (sq hr _) _
    have hI3:=tT ((r.drop f).drop s2) hr3 (by rw [List.length_drop,List.length_drop];omega)
    have hik3:=wT hr3
    rw [List.length_drop,List.length_drop] at hik3
    have hw2:IntKind.wrap .i64 ((f:Int)+(s2:Int))=((f+s2:Nat):Int):=by rw [mQ (by omega) (by omega)];omega
    have hb2:0≤IntKind.wrap .i64 ((f:Int)+(s2:Int))∧IntKind.wrap .i64 ((f:Int)+(s2:Int))≤((r.map Y).length:Int)∧((r.map Y).length:Int)≤((r.map Y).length:Int):=by rw [hw2,List.length_map];omega
    have hs2:T.slice 1 (((r.map Y).take ((((r.map Y).length:Nat):Int)).toNat).drop (IntKind.wrap .i64 ((f:Int)+(s2:Int))).toNat)=bT ((r.drop f).drop s2):=by
     rw [hw2,Int.toNat_natCast (n:=f+s2),vh,List.drop_drop]
    generalize r6 ((r.drop f).drop s2)=g3 at *
    obtain ⟨tw,s3,e3⟩:=g3
    dsimp only at hik3 hdec
    obtain ⟨k3t,hk3⟩: ∃kt:T,(e3≠0→kt= .nil)∧(e3=0→kt= .slice 1 (tw.map I)):=⟨if e3≠0 then .nil else .slice 1 (tw.map I),fun h=>if_pos h,fun h=>if_neg (by simpa using h)⟩
    have hI3:DCalls Tryz.prog 98 [bT ((r.drop f).drop s2)] (.tup [k3t,I s3,I e3]):=by
     have e:gsT (tw,s3,e3)= .tup [k3t,I s3,I e3]:=by
      show T.tup [if e3≠0 then .nil else _,_,_]=_
      by_cases d:e3=0
      ·rw [if_neg (by simpa using d),hk3.2 d]
      ·rw [if_pos d,hk3.1 d]
     rw [← e];exact hI3
    repeat' ((conv=>whnf);first|refine qA d2' ?_|refine aS ?_|fail)
    refine rv (β:=Unit) (fun _=>{sl:=[(0,.t (bT r)),(7,.own 83 64 4 (acc.map rM)),(8,.t (.str v)),(9,.t (I f)),(10,.t (I e3)),(11,.t (.slice 1 (ks.map I))),(12,.t (I s2)),(13,.t k3t),(14,.t (I s3)),(31,.t (I n)),(32,.t (I i))],bx:=[]}) (fun _=>True) ?_ ?_
    ·repeat' ((conv=>whnf);first|(refine nv_ (bT ((r.drop f).drop s2)) (by first|exact hs2|fail) ?_)|refine rD _ (hI3) ?_|(exact ⟨(),trivial,by (repeat' (first|exact trivial|exact LeV.same _|exact rfl|exact fun _ _ _=>trivial|refine And.intro ?_ ?_));done⟩)|(refine And.intro (by first|exact hb2|fail) ?_)|fail)
    rintro _ _
    clear hI3 hs2 hb2
    by_cases d3:e3≠0
    ·rw [if_pos d3,if_pos d3] at hdec
     obtain ⟨rfl,rfl⟩:=hDe (by rw [← hdec];exact d3)
     rw [← hdec]
     repeat' ((conv=>whnf);first|exact trivial|refine qB d3 ?_|refine rix ?_|refine aS ?_|fail)
    have d3':e3=0:=by omega
    rw [hk3.2 d3']
    rw [if_neg d3] at hdec
    have hlw:((tw.map I).length:Int)=tw.length:=by rw [List.length_map]
    by_cases d4:tw.length≠2
    ·rw [if_pos d4,if_pos (by decide)] at hdec
     obtain ⟨rfl,rfl⟩:=hDe (by rw [← hdec];decide)
     rw [← hdec]
     have d4':((tw.map I).length:Int)≠2:=by omega
     repeat' ((conv=>whnf);first|exact trivial|refine qA d3' ?_|refine qB d4' ?_|refine rix ?_|refine aS ?_|fail)
    obtain ⟨k3,k4⟩:=hik3 d3'
    obtain ⟨s3,rfl⟩:=Int.eq_ofNat_of_zero_le (show 0≤s3 by omega)
    rw [if_neg d4,if_neg (by simp),Int.toNat_natCast] at hdec
    dsimp only at hdec
    obtain ⟨a,c,rfl⟩: ∃a c,tw=[a,c]:=by
     match tw,(show tw.length=2 by omega) with
     |[a,c],_=>exact ⟨a,c,rfl⟩
    have hw3:IntKind.wrap .i64 (IntKind.wrap .i64 ((f:Int)+(s2:Int))+(s3:Int))=((f+s2+s3:Nat):Int):=by rw [hw2,mQ (by omega) (by omega)];omega
    have hb3:0≤IntKind.wrap .i64 (IntKind.wrap .i64 ((f:Int)+(s2:Int))+(s3:Int))∧IntKind.wrap .i64 (IntKind.wrap .i64 ((f:Int)+(s2:Int))+(s3:Int))≤((r.map Y).length:Int)∧((r.map Y).length:Int)≤((r.map Y).length:Int):=by rw [hw3,List.length_map];omega
    have hs3:T.slice 1 (((r.map Y).take ((((r.map Y).length:Nat):Int)).toNat).drop (IntKind.wrap .i64 (IntKind.wrap .i64 ((f:Int)+(s2:Int))+(s3:Int))).toNat)=bT (((r.drop f).drop s2).drop s3):=by
     rw [hw3,Int.toNat_natCast (n:=f+s2+s3),vh,List.drop_drop,List.drop_drop,Nat.add_assoc]
    have hr4:se (((r.drop f).drop s2).drop s3):=sq hr3 _
    have hal2:(acc++[(⟨v,ks,a,c⟩:RE)]).length+(((r.drop f).drop s2).drop s3).length≤b.length:=by
     rw [List.length_append,List.length_drop,List.length_drop,List.length_drop,List.length_cons,List.length_nil]
     omega
    have hrm:((acc.map rM).length+1) * 56≤140737488355328:=by rw [List.length_map];omega
    have hsn:(acc++[(⟨v,ks,a,c⟩:RE)]).map rM=acc.map rM++[rM ⟨v,ks,a,c⟩]:=by rw [List.map_append];rfl
    have hmu:n - (i+1)<n - i:=by omega
    have hdec2:ti (n - (i+1)) (((r.drop f).drop s2).drop s3) (acc++[(⟨v,ks,a,c⟩:RE)])=D:=hdec
    clear hdec hik hik3 hbk hlw hw2 hw3 hkt hk3
    repeat' ((conv=>whnf);first|refine qA d3' ?_|(refine nv_ (bT (((r.drop f).drop s2).drop s3)) (by first|exact hs3|fail) ?_)|(exact ⟨(i+1,((r.drop f).drop s2).drop s3,acc++[⟨v,ks,a,c⟩]),⟨h,hr4,hal2,hdec2⟩,hmu,by (repeat' (first|(exact leI hnx)|(exact rH hsn)|exact trivial|exact LeV.same _|exact rfl|exact fun _ _ _=>trivial|refine And.intro ?_ ?_));done⟩)|refine nT_ ?_|refine aN0 ?_|(refine And.intro (by first|exact hb3|exact hrm|fail) ?_)|refine aS ?_|fail)
   ·have hlt: ¬(i:Int)<(n:Int):=by omega
    rw [show n - i=0 by omega] at hdec
    have hdec2:D=(acc,r,0):=hdec.symm
    repeat' ((conv=>whnf);first|refine qw hlt ?_|(exact ⟨(r,acc),hdec2,by (repeat' (first|exact trivial|exact LeV.same _|exact rfl|exact fun _ _ _=>trivial|refine And.intro ?_ ?_));done⟩)|refine aS ?_|fail)
  ·rintro ⟨r,acc⟩ hDD
   dsimp only at hDD
   have hrl:((r.map Y).length:Int)=r.length:=by rw [List.length_map]
   by_cases c5:r=[]
   ·obtain ⟨rfl,rfl⟩:=hDo (by rw [hDD]) (by rw [hDD];exact c5)
    have c6: ¬((r.map Y).length:Int)>0:=by rw [c5];simp
    rw [hDD]
    repeat' ((conv=>whnf);first|exact trivial|refine qw c6 ?_|refine rix ?_|refine aS ?_|fail)
   ·obtain ⟨rfl,rfl⟩:=hD6 (by rw [hDD]) (by rw [hDD];exact c5)
    have c6:((r.map Y).length:Int)>0:=by
     have:=List.length_pos_iff.2 c5
     omega
    repeat' ((conv=>whnf);first|exact trivial|refine qx c6 ?_|refine rix ?_|refine aS ?_|fail)
 have h:=main (if (tK b).2≠0 then .nil else esT (tK b).1) (tK b).2 (fun h=>⟨if_pos h,rfl⟩) (fun h=>⟨if_neg (by simpa using h),h⟩)
 exact h
end Go.ST
end
section
namespace Go.ST8
open Go Go.DL Go.Proofs
noncomputable def c9:bc:=(.seq (.region [oo 0 (.mov kF)] []) (.seq (.region [oo 1 (.mov (.const .nil))] []) (.seq (.seq (.region [oo 2 (.mov (Kc 0))] []) (.block 0 (.loop (.seq (.seq (.region [mv 24 2,oo 25 (.bin .lss (tm 24) (Kc 10))] []) (.cond (tm 25) .skip (.exit 0))) (.seq (.block 1 (.region [mv 28 1,mv 29 2,oo 30 (.build [Z0,Z0,Z0] [(0,1,(Kc 5)),(1,1,(Kc 0)),(2,1,(tm 29))]),oo 31 (.buildF 3 1 [Z0,Z0,Z0] [(0,(tm 30))]),oo 32 (.append 91 92 3 24 (tm 28) (tm 31)),mv 1 32] [])) (.region [mv 26 2,oo 27 (.bin .add (tm 26) (Kc 1)),mv 2 27] [])))))) (.seq (.cut (.region [⟨some 34,.call 43 [(Kc 1),(.const (.str ⟨#[107,105,110,100]⟩)),(Kc 0),(Kc 0)],none,[]⟩,mv 35 1,⟨some 36,.call 42 [(tm 34),(.const .nil),(.const (.str ⟨#[107,105,110,100]⟩)),(tm 35)],none,[]⟩,mv 33 36,oo 37 (.ext (tm 33) 0),oo 38 (.ext (tm 33) 1),mv 3 37,mv 4 38] [])) (.seq (.cut (.region [mv 39 3,oo 40 (.call 44 [tm 39]),mv 41 40,mT 42 4 41,oT 43 41 (.len (tm 42)),oT 44 41 (.bin .eql (tm 43) (Kc 1)),oo 45 (.pick (tm 41) (tm 44) kF),mv 46 45,mT 47 4 46,oT 48 46 (.idxL 4 (tm 47) (Kc 0)),oT 49 46 (.offA 2 (tm 48)),oT 50 46 (.load 1 false (tm 49)),oT 51 46 (.bin .eql (tm 50) (Kc 10)),oo 52 (.pick (tm 46) (tm 51) kF),mv 5 52] [])) (.seq (.cut (.region [⟨some 54,.call 43 [(Kc 3),(.const S0),(Kc 3),(Kc 0)],none,[]⟩,oo 55 (.build [Z0,Z0,Z0] [(0,1,(Kc 7)),(1,1,(Kc 0)),(2,1,(Kc 10))]),oo 56 (.buildS 92 3 1 [Z0,Z0,Z0] [(0,(tm 55))]),⟨some 57,.call 42 [(tm 54),(.const .nil),(.const (.str ⟨#[115,114,99]⟩)),(tm 56)],none,[]⟩,mv 53 57,oo 58 (.ext (tm 53) 0),oo 59 (.ext (tm 53) 1),mv 6 58,mv 7 59] [])) (.seq (.cut (.region [⟨some 61,.call 43 [(Kc 2),(.const S0),(Kc 0),(Kc 0)],none,[]⟩,mv 62 7,oo 63 (.build [Z0,Z0,Z0] [(0,1,(Kc 7)),(1,1,(Kc 0)),(2,1,(Kc 10))]),oo 64 (.buildS 92 3 1 [Z0,Z0,Z0] [(0,(tm 63))]),⟨some 65,.call 42 [(tm 61),(tm 62),(.const (.str ⟨#[115,114,99]⟩)),(tm 64)],none,[]⟩,mv 60 65,oo 66 (.ext (tm 60) 0),oo 67 (.ext (tm 60) 1),mv 8 66,mv 9 67] [])) (.seq (.cut (.region [⟨some 69,.call 43 [(Kc 3),(.const S0),(Kc 3),(Kc 0)],none,[]⟩,mv 70 9,oo 71 (.build [Z0,Z0,Z0] [(0,1,(Kc 7)),(1,1,(Kc 0)),(2,1,(Kc 13))]),oo 72 (.build [Z0,Z0,Z0] [(0,1,(Kc 7)),(1,1,(Kc 0)),(2,1,(Kc 14))]),oo 73 (.buildS 92 3 2 [Z0,Z0,Z0] [(0,(tm 71)),(1,(tm 72))]),⟨some 74,.call 42 [(tm 69),(tm 70),(.const (.str ⟨#[115,114,99]⟩)),(tm 73)],none,[]⟩,mv 68 74,oo 75 (.ext (tm 68) 0),oo 76 (.ext (tm 68) 1),mv 10 75,mv 11 76] [])) (.seq (.cut (.region [mv 77 6,ln 78 77,oo 79 (.bin .eql (tm 78) (Kc 1)),mv 80 79,mT 81 6 80,oT 82 80 (.idxL 1 (tm 81) (Kc 0)),oT 83 80 (.load 1 false (tm 82)),oT 84 80 (.bin .eql (tm 83) (.const (.int .i64 (-1)))),oo 85 (.pick (tm 80) (tm 84) kF),mv 86 85,mT 87 9 86,oT 88 86 (.len (tm 87)),oT 89 86 (.bin .eql (tm 88) (Kc 1)),oo 90 (.pick (tm 86) (tm 89) kF),mv 91 90,mT 92 10 91,oT 93 91 (.buildS 3 1 2 [Z0] [(0,(Kc 7)),(1,(.const (.int .i64 (-1))))]),oT 94 91 (.call 21 [(tm 92),(tm 93)]),oT 95 91 (.bin .eql (tm 94) (Kc 0)),oo 96 (.pick (tm 91) (tm 95) kF),mv 12 96] [])) (.seq (.cut (.region [⟨some 98,.call 43 [(Kc 4),(.const (.str ⟨#[100,115,116]⟩)),(Kc 20),(Kc 21)],none,[]⟩,oo 99 (.build [Z0,Z0,Z0] [(0,1,(Kc 1)),(1,1,(Kc 0)),(2,1,(Kc 0))]),oo 100 (.build [Z0,Z0,Z0] [(0,1,(Kc 2)),(1,1,(Kc 0)),(2,1,(Kc 0))]),oo 101 (.build [Z0,Z0,Z0] [(0,1,(Kc 1)),(1,1,(Kc 0)),(2,1,(Kc 0))]),oo 102 (.build [Z0,Z0,Z0] [(0,1,(Kc 3)),(1,1,(Kc 0)),(2,1,(Kc 0))]),oo 103 (.buildS 92 3 4 [Z0,Z0,Z0] [(0,(tm 99)),(1,(tm 100)),(2,(tm 101)),(3,(tm 102))]),⟨some 104,.call 42 [(tm 98),(.const .nil),(.const (.str ⟨#[100,115,116]⟩)),(tm 103)],none,[]⟩,mv 97 104,oo 105 (.ext (tm 97) 0),oo 106 (.ext (tm 97) 1),mv 13 105,mv 14 106] [])) (.seq (.cut (.region [⟨some 108,.call 43 [(Kc 5),(.const (.str ⟨#[100,115,116]⟩)),(Kc 0),(Kc 0)],none,[]⟩,mv 109 14,oo 110 (.build [Z0,Z0,Z0] [(0,1,(Kc 9)),(1,1,(Kc 21)),(2,1,(Kc 0))]),oo 111 (.build [Z0,Z0,Z0] [(0,1,(Kc 9)),(1,1,(Kc 22)),(2,1,(Kc 0))]),oo 112 (.buildS 92 3 2 [Z0,Z0,Z0] [(0,(tm 110)),(1,(tm 111))]),⟨some 113,.call 42 [(tm 108),(tm 109),(.const (.str ⟨#[115,114,99]⟩)),(tm 112)],none,[]⟩,mv 107 113,oo 114 (.ext (tm 107) 0),oo 115 (.ext (tm 107) 1),mv 15 114,mv 16 115] [])) (.seq (.cut (.region [mv 116 13,oo 117 (.buildS 3 1 4 [Z0] [(0,(Kc 20)),(1,(Kc 21)),(2,(Kc 20)),(3,(.const (.int .i64 (-1))))]),oo 118 (.call 21 [(tm 116),(tm 117)]),oo 119 (.bin .eql (tm 118) (Kc 0)),mv 120 119,mT 121 14 120,oT 122 120 (.len (tm 121)),oT 123 120 (.bin .eql (tm 122) (Kc 2)),oo 124 (.pick (tm 120) (tm 123) kF),mv 125 124,mT 126 15 125,oT 127 125 (.buildS 3 1 2 [Z0] [(0,(Kc 2)),(1,(.const (.int .i64 (-1))))]),oT 128 125 (.call 21 [(tm 126),(tm 127)]),oT 129 125 (.bin .eql (tm 128) (Kc 0)),oo 130 (.pick (tm 125) (tm 129) kF),mv 17 130] [])) (.seq (.cut (.region [⟨some 132,.call 43 [(Kc 6),(.const S0),(Kc 2),(Kc 10)],none,[]⟩,oo 133 (.build [Z0,Z0,Z0] [(0,1,(Kc 4)),(1,1,(Kc 0)),(2,1,(Kc 0))]),oo 134 (.build [Z0,Z0,Z0] [(0,1,(Kc 4)),(1,1,(Kc 0)),(2,1,(Kc 0))]),oo 135 (.build [Z0,Z0,Z0] [(0,1,(Kc 4)),(1,1,(Kc 0)),(2,1,(Kc 0))]),oo 136 (.build [Z0,Z0,Z0] [(0,1,(Kc 4)),(1,1,(Kc 0)),(2,1,(Kc 9))]),oo 137 (.build [Z0,Z0,Z0] [(0,1,(Kc 4)),(1,1,(Kc 0)),(2,1,(Kc 10))]),oo 138 (.build [Z0,Z0,Z0] [(0,1,(Kc 4)),(1,1,(Kc 0)),(2,1,(Kc 11))]),oo 139 (.build [Z0,Z0,Z0] [(0,1,(Kc 4)),(1,1,(Kc 0)),(2,1,(Kc 40))]),oo 140 (.build [Z0,Z0,Z0] [(0,1,(Kc 4)),(1,1,(Kc 0)),(2,1,(Kc 40))]),oo 141 (.build [Z0,Z0,Z0] [(0,1,(Kc 4)),(1,1,(Kc 0)),(2,1,(Kc 40))]),oo 142 (.buildS 92 3 9 [Z0,Z0,Z0] [(0,(tm 133)),(1,(tm 134)),(2,(tm 135)),(3,(tm 136)),(4,(tm 137)),(5,(tm 138)),(6,(tm 139)),(7,(tm 140)),(8,(tm 141))]),⟨some 143,.call 42 [(tm 132),(.const .nil),(.const (.str ⟨#[115,114,99]⟩)),(tm 142)],none,[]⟩,mv 131 143,oo 144 (.ext (tm 131) 0),oo 145 (.ext (tm 131) 1),mv 18 144,mv 19 145] [])) (.seq (.cut (.region [mv 147 14,oo 148 (.call 46 [tm 147]),oo 149 (.call 45 [tm 148]),mv 146 149,oo 150 (.ext (tm 146) 0),oo 151 (.ext (tm 146) 1),mv 20 150,mv 21 151] [])) (.seq (.cut (.region [mv 153 4,oo 154 (.call 27 [(tm 153),(.const .nil)]),mv 152 154,oo 155 (.ext (tm 152) 0),oo 156 (.ext (tm 152) 1),mv 22 155,mv 23 156] [])) (.seq (.region [mv 157 5,mv 158 157,mT 159 12 158,oo 160 (.pick (tm 158) (tm 159) kF),mv 161 160,mT 162 17 161,oo 163 (.pick (tm 161) (tm 162) kF),mv 164 163,mT 165 18 164,oT 166 164 (.buildS 3 1 9 [Z0] [(0,(Kc 4)),(1,(Kc 4)),(2,(.const (.int .i64 (-1)))),(3,(.const (.int .i64 (-1)))),(4,(Kc 4)),(5,(.const (.int .i64 (-1)))),(6,(Kc 4)),(7,(Kc 4)),(8,(.const (.int .i64 (-1))))]),oT 167 164 (.call 21 [(tm 165),(tm 166)]),oT 168 164 (.bin .eql (tm 167) (Kc 0)),oo 169 (.pick (tm 164) (tm 168) kF),mv 170 169,mT 171 21 170,oT 172 170 (.bin .eql (tm 171) (Kc 0)),oo 173 (.pick (tm 170) (tm 172) kF),mv 174 173,mT 175 20 174,mT 176 14 174,oT 177 174 (.call 47 [(tm 175),(tm 176)]),oo 178 (.pick (tm 174) (tm 177) kF),mv 179 178,mT 180 14 179,mT 181 4 179,oT 182 179 (.call 47 [(tm 180),(tm 181)]),oT 183 179 (.not (tm 182)),oo 184 (.pick (tm 179) (tm 183) kF),mv 185 184,mT 186 23 185,oT 187 185 (.bin .eql (tm 186) (Kc 0)),oo 188 (.pick (tm 185) (tm 187) kF),mv 189 188,mT 190 22 189,oT 191 189 (.len (tm 190)),oT 192 189 (.bin .eql (tm 191) (Kc 1)),oo 193 (.pick (tm 189) (tm 192) kF),mv 194 193,mT 195 4 194,oT 196 194 (.call 23 [(.const .nil),(tm 195)]),oT 197 194 (.bin .eql (tm 196) (Kc 4)),oo 198 (.pick (tm 194) (tm 197) kF),mv 0 198] []) .ret))))))))))))))))
theorem l9:(Tryz.f9.body.bind (bp Tryz.prog 199 [6000006,6000007,6000008,6000009,6000010,6000011,6000012,6000013,6000014,6000015,6000016,6000017,8000031]))=some c9:=by kernel_rfl
end Go.ST8
end
section
namespace Go.ST
open Go Go.DL Go.MM Go.Proofs
open Go.TY hiding Fd
open Go.RC (vi vis vs se tI xK)
abbrev EA:List RE:=[⟨vN,[5],10,9⟩]
abbrev EO:List RE:=[⟨vN,[7],0,10⟩]
abbrev EN:List RE:=[⟨vN,[1],20,0⟩,⟨vN,[2],21,0⟩]
abbrev E6:List RE:=[⟨vN,[4],0,40⟩]
abbrev uo:List (Int×Int×Int):=[(5,0,0),(5,0,1),(5,0,2),(5,0,3),(5,0,4),(5,0,5),(5,0,6),(5,0,7),(5,0,8),(5,0,9)]
abbrev Dh:List (Int×Int×Int):=[(4,0,0),(4,0,0),(4,0,0),(4,0,9),(4,0,10),(4,0,11),(4,0,40),(4,0,40),(4,0,40)]
theorem yj (k:Int) (f:ByteArray) (n m:Int) (st:List RE) (name:ByteArray) (ts:List (Int×Int×Int)) (out:List Int) (st':List RE) (hl:ts.length<2^20) (hb:vR L17 (stp k f n m) name ts st=true) (hf:rY L17 name=true) (h:sI L17 (stp k f n m) name ts ([],st)=(out,st')):
  DCalls Tryz.prog 42 [tQ (stp k f n m),esT st,.str name,vg ts] (.tup [.slice 1 (out.map I),esT st']):=by
 have:=zN (stp k f n m) st name ts hl hb hf
 rwa [h] at this
theorem wF (k:Int) (f:ByteArray) (n m:Int) (name:ByteArray) (ts:List (Int×Int×Int)) (out:List Int) (st':List RE) (hl:ts.length<2^20) (hb:vR L17 (stp k f n m) name ts []=true) (hf:rY L17 name=true) (h:sI L17 (stp k f n m) name ts ([],[])=(out,st')):
  DCalls Tryz.prog 42 [tQ (stp k f n m),.nil,.str name,vg ts] (.tup [.slice 1 (out.map I),esT st']):=
 (yj k f n m [] name ts out st' hl hb hf h).lesAll ⟨Les.refl _,Les.nil 4,Les.refl _,Les.refl _,trivial⟩
theorem wE (a:List Int) (h:a.length<2^60):DCalls Tryz.prog 21 [.slice 1 (a.map I),.slice 1 (a.map I)] (I 0):=by
 have:=vB a a h h
 rwa [ta.2 rfl] at this
theorem AR (a:List Int) (h:a.length<2^40) (hc:tY a=true):DCalls Tryz.prog 44 [.slice 1 (a.map I)] (.bool true):=by
 have:=w9 a h
 rwa [hc] at this
theorem zR (l:List Int):se (vis l):=fun b hb=>by
 unfold vis at hb
 rcases List.mem_append.1 hb with h|h
 ·exact tI _ b h
 ·obtain ⟨x,_,hx⟩:=List.mem_flatMap.1 h
  exact tI x b hx
theorem yx (st:List RE):se (tj st):=fun b hb=>by
 unfold tj at hb
 rcases List.mem_append.1 hb with h|h
 ·exact tI _ b h
 ·obtain ⟨e,_,he⟩:=List.mem_flatMap.1 h
  unfold sF at he
  rcases List.mem_append.1 he with h|h
  ·exact xK _ b h
  ·rcases List.mem_append.1 h with h|h <;> exact zR _ b h
theorem szN: ∀e∈EN,SzE e:=fun e he=>by
 simp only [List.mem_cons,List.not_mem_nil,or_false] at he
 rcases he with rfl|rfl
 all_goals exact ⟨by decide,by decide,fun x hx=>by rw [List.mem_singleton.1 hx];unfold Go.RC.i64;decide,by unfold Go.RC.i64;decide,by unfold Go.RC.i64;decide⟩
theorem Df (st:List RE) (hz: ∀e∈st,SzE e) (hl:st.length<2^20) (_:st≠[]) (hn:(tj st).length<2^28):DCalls Tryz.prog 45 [bT (tj st)] (.tup [esT st,I 0]):=by
 have:=zH (tj st) (yx st) (by omega)
 rw [zl hz (by omega)] at this
 exact this
theorem Ah (a b:List RE) (x:Bool) (hla:a.length<2^40) (hlb:b.length<2^40) (hka: ∀x∈a,kOk x) (hkb: ∀x∈b,kOk x) (h:decide (a=b)=x):DCalls Tryz.prog 47 [esT a,esT b] (.bool x):=h▸Bu a b hla hlb hka hkb
theorem B6 (a:List RE) (hia:rZ a) (ha:a.length<2^30) (hka: ∀x∈a,kOk x) (h:si a []=some a):DCalls Tryz.prog 27 [esT a,.nil] (.tup [esT a,I 0]):=by
 have:=xh a [] hia List.Pairwise.nil ha (by decide) hka (fun x hx=>by cases hx)
 rw [h] at this
 exact this.lesAll ⟨Les.refl _,Les.nil 4,trivial⟩
theorem AQ (st:List RE) (hl:st.length<2^60) (hk: ∀e∈st,kOk e) (x:Int) (h:vI [] st=x):DCalls Tryz.prog 23 [.nil,esT st] (I x):=
 (h▸xI [] (by decide) (fun v hv=>by cases hv) st hl hk:DCalls Tryz.prog 23 [vsT [],esT st] (I x)).lesAll ⟨Les.nil 5,Les.refl _,trivial⟩
theorem kEA: ∀e∈EA,kOk e:=by decide
theorem kEN: ∀e∈EN,kOk e:=by decide
theorem zM:DCalls Tryz.prog 9 [] (.bool true):=by
 refine qQ (rs:=[.tmp 0]) mixed Tryz.func9 Go.ST8.l9 rfl rfl rfl (r:=[.bool true]) (nlZ rfl) ?_
 skip
 refine qY 0 (α:=Nat) (β:=Unit) (fun i=>{sl:=[(1,.own 32 92 3 ((uo.take i).map tri)),(2,.t (I i))],bx:=[]}) (fun i=>i≤10) (fun i=>10 - i)
  (fun _=>{sl:=[(1,.t (vg uo))],bx:=[]}) (fun _=>True) 0 (by decide) ?_ ?_ ?_
 ·repeat' (first|exact trivial|exact LeV.same _|exact rfl|exact fun _ _ _=>trivial|exact LeV.nil _ _ _|refine And.intro ?_ ?_)
 ·rintro i hi
  rcases Nat.lt_or_ge i 10 with h|h
  ·have ht:(uo.take (i+1)).map tri=(uo.take i).map tri++[tri (5,0,i)]:=by
    have:i=0∨i=1∨i=2∨i=3∨i=4∨i=5∨i=6∨i=7∨i=8∨i=9:=by omega
    rcases this with rfl|rfl|rfl|rfl|rfl|rfl|rfl|rfl|rfl|rfl <;> rfl
   have hl:((uo.take i).map tri).length=i:=by rw [List.length_map,List.length_take];exact Nat.min_eq_left hi
   generalize (uo.take i).map tri=xs at *
   repeat' ((conv=>whnf);first|refine aD1 ?_|refine aS ?_|fail)
   exact ⟨i+1,h,by omega,by repeat' (first|(exact rH ht)|exact trivial|exact rfl|exact fun _ _ _=>trivial|exact lI|refine And.intro ?_ ?_)⟩
  ·obtain rfl:i=10:=by omega
   repeat' ((conv=>whnf);first|(exact ⟨(),trivial,by (repeat' (first|(exact yI rfl)|exact trivial|exact rfl|exact fun _ _ _=>trivial|refine And.intro ?_ ?_));done⟩)|refine aD0 ?_|refine aS ?_|fail)
 rintro _ _
 have k1:=tM 1 wD 0 0
 have k2:=wF 1 wD 0 0 wD uo [1,2,3,4,5,6,7,7,7,7] EA (by decide) (by decide+kernel) (by decide+kernel) (by decide+kernel)
 skip
 refine rv (β:=Unit) (fun _=>{sl:=[(3,.t (.slice 1 ([1,2,3,4,5,6,7,7,7,7].map I))),(4,.t (esT EA))],bx:=[]}) (fun _=>True) ?_ ?_
 ·repeat' ((conv=>whnf);first|refine rD _ (k1) ?_|refine rD _ (k2) ?_|(exact ⟨(),trivial,by (repeat' (first|exact trivial|exact LeV.same _|exact rfl|exact fun _ _ _=>trivial|refine And.intro ?_ ?_));done⟩)|fail)
 rintro _ _
 clear k1 k2
 have k3:=AR [1,2,3,4,5,6,7,7,7,7] (by decide) (by decide+kernel)
 skip
 refine rv (β:=Unit) (fun _=>{sl:=[(4,.t (esT EA)),(5,.t (.bool true))],bx:=[]}) (fun _=>True) ?_ ?_
 ·repeat' ((conv=>whnf);first|refine rD _ (k3) ?_|(exact ⟨(),trivial,by (repeat' (first|exact trivial|exact LeV.same _|exact rfl|exact fun _ _ _=>trivial|refine And.intro ?_ ?_));done⟩)|refine nT_ ?_|refine aE1 ?_|refine aS ?_|fail)
 rintro _ _
 clear k3
 have k4:=tM 3 e0 3 0
 have k5:=wF 3 e0 3 0 vd [(7,0,10)] [-1] [] (by decide) (by decide+kernel) (by decide+kernel) (by decide+kernel)
 skip
 refine rv (β:=Unit) (fun _=>{sl:=[(4,.t (esT EA)),(5,.t (.bool true)),(6,.t (.slice 1 ([-1].map I))),(7,.t (esT []))],bx:=[]}) (fun _=>True) ?_ ?_
 ·repeat' ((conv=>whnf);first|refine rD _ (k4) ?_|refine rD _ (k5) ?_|(exact ⟨(),trivial,by (repeat' (first|exact trivial|exact LeV.same _|exact rfl|exact fun _ _ _=>trivial|refine And.intro ?_ ?_));done⟩)|refine aS ?_|fail)
 rintro _ _
 clear k4 k5
 have k6:=tM 2 e0 0 0
 have k7:=yj 2 e0 0 0 [] vd [(7,0,10)] [7] EO (by decide) (by decide+kernel) (by decide+kernel) (by decide+kernel)
 skip
 refine rv (β:=Unit) (fun _=>{sl:=[(4,.t (esT EA)),(5,.t (.bool true)),(6,.t (.slice 1 ([-1].map I))),(9,.t (esT EO))],bx:=[]}) (fun _=>True) ?_ ?_
 ·repeat' ((conv=>whnf);first|refine rD _ (k6) ?_|refine rD _ (k7) ?_|(exact ⟨(),trivial,by (repeat' (first|exact trivial|exact LeV.same _|exact rfl|exact fun _ _ _=>trivial|refine And.intro ?_ ?_));done⟩)|refine aS ?_|fail)
 rintro _ _
 clear k6 k7
 have k8:=tM 3 e0 3 0
 have k9:=yj 3 e0 3 0 EO vd [(7,0,13),(7,0,14)] [7, -1] EO (by decide) (by decide+kernel) (by decide+kernel) (by decide+kernel)
 skip
 refine rv (β:=Unit) (fun _=>{sl:=[(4,.t (esT EA)),(5,.t (.bool true)),(6,.t (.slice 1 ([-1].map I))),(9,.t (esT EO)),(10,.t (.slice 1 ([7, -1].map I)))],bx:=[]}) (fun _=>True) ?_ ?_
 ·repeat' ((conv=>whnf);first|refine rD _ (k8) ?_|refine rD _ (k9) ?_|(exact ⟨(),trivial,by (repeat' (first|exact trivial|exact LeV.same _|exact rfl|exact fun _ _ _=>trivial|refine And.intro ?_ ?_));done⟩)|refine aS ?_|fail)
 rintro _ _
 clear k8 k9
 have k10:=wE [7, -1] (by decide)
 skip
 refine rv (β:=Unit) (fun _=>{sl:=[(4,.t (esT EA)),(5,.t (.bool true)),(12,.t (.bool true))],bx:=[]}) (fun _=>True) ?_ ?_
 ·repeat' ((conv=>whnf);first|refine rD _ (k10) ?_|(exact ⟨(),trivial,by (repeat' (first|exact trivial|exact LeV.same _|exact rfl|exact fun _ _ _=>trivial|refine And.intro ?_ ?_));done⟩)|refine nT_ ?_|refine aE1 ?_|refine aS ?_|fail)
 rintro _ _
 clear k10
 have k11:=tM 4 vK 20 21
 have k12:=wF 4 vK 20 21 vK [(1,0,0),(2,0,0),(1,0,0),(3,0,0)] [20,21,20, -1] EN (by decide) (by decide+kernel) (by decide+kernel) (by decide+kernel)
 skip
 refine rv (β:=Unit) (fun _=>{sl:=[(4,.t (esT EA)),(5,.t (.bool true)),(12,.t (.bool true)),(13,.t (.slice 1 ([20,21,20, -1].map I))),(14,.t (esT EN))],bx:=[]}) (fun _=>True) ?_ ?_
 ·repeat' ((conv=>whnf);first|refine rD _ (k11) ?_|refine rD _ (k12) ?_|(exact ⟨(),trivial,by (repeat' (first|exact trivial|exact LeV.same _|exact rfl|exact fun _ _ _=>trivial|refine And.intro ?_ ?_));done⟩)|refine aS ?_|fail)
 rintro _ _
 clear k11 k12
 have k13:=tM 5 vK 0 0
 have k14:=yj 5 vK 0 0 EN vd [(9,21,0),(9,22,0)] [2, -1] EN (by decide) (by decide+kernel) (by decide+kernel) (by decide+kernel)
 skip
 refine rv (β:=Unit) (fun _=>{sl:=[(4,.t (esT EA)),(5,.t (.bool true)),(12,.t (.bool true)),(13,.t (.slice 1 ([20,21,20, -1].map I))),(14,.t (esT EN)),(15,.t (.slice 1 ([2, -1].map I)))],bx:=[]}) (fun _=>True) ?_ ?_
 ·repeat' ((conv=>whnf);first|refine rD _ (k13) ?_|refine rD _ (k14) ?_|(exact ⟨(),trivial,by (repeat' (first|exact trivial|exact LeV.same _|exact rfl|exact fun _ _ _=>trivial|refine And.intro ?_ ?_));done⟩)|refine aS ?_|fail)
 rintro _ _
 clear k13 k14
 have k15:=wE [20,21,20, -1] (by decide)
 have k16:=wE [2, -1] (by decide)
 skip
 refine rv (β:=Unit) (fun _=>{sl:=[(4,.t (esT EA)),(5,.t (.bool true)),(12,.t (.bool true)),(14,.t (esT EN)),(17,.t (.bool true))],bx:=[]}) (fun _=>True) ?_ ?_
 ·repeat' ((conv=>whnf);first|refine rD _ (k15) ?_|refine rD _ (k16) ?_|(exact ⟨(),trivial,by (repeat' (first|exact trivial|exact LeV.same _|exact rfl|exact fun _ _ _=>trivial|refine And.intro ?_ ?_));done⟩)|refine aE1 ?_|refine aS ?_|fail)
 rintro _ _
 clear k15 k16
 have k17:=tM 6 e0 2 10
 have k18:=wF 6 e0 2 10 vd Dh [4,4, -1, -1,4, -1,4,4, -1] E6 (by decide) (by decide+kernel) (by decide+kernel) (by decide+kernel)
 skip
 refine rv (β:=Unit) (fun _=>{sl:=[(4,.t (esT EA)),(5,.t (.bool true)),(12,.t (.bool true)),(14,.t (esT EN)),(17,.t (.bool true)),(18,.t (.slice 1 ([4,4, -1, -1,4, -1,4,4, -1].map I)))],bx:=[]}) (fun _=>True) ?_ ?_
 ·repeat' ((conv=>whnf);first|refine rD _ (k17) ?_|refine rD _ (k18) ?_|(exact ⟨(),trivial,by (repeat' (first|exact trivial|exact LeV.same _|exact rfl|exact fun _ _ _=>trivial|refine And.intro ?_ ?_));done⟩)|refine aS ?_|fail)
 rintro _ _
 clear k17 k18
 have k19:=zI EN szN (by decide) (by decide+kernel)
 have k20:=Df EN szN (by decide) (by simp) (by decide+kernel)
 skip
 refine rv (β:=Unit) (fun _=>{sl:=[(4,.t (esT EA)),(5,.t (.bool true)),(12,.t (.bool true)),(14,.t (esT EN)),(17,.t (.bool true)),(18,.t (.slice 1 ([4,4, -1, -1,4, -1,4,4, -1].map I))),(20,.t (esT EN)),(21,.t (I 0))],bx:=[]}) (fun _=>True) ?_ ?_
 ·repeat' ((conv=>whnf);first|refine rD _ (k19) ?_|refine rD _ (k20) ?_|(exact ⟨(),trivial,by (repeat' (first|exact trivial|exact LeV.same _|exact rfl|exact fun _ _ _=>trivial|refine And.intro ?_ ?_));done⟩)|fail)
 rintro _ _
 clear k19 k20
 have k21:=B6 EA (sP.1 (by decide+kernel)) (by decide) kEA (by decide+kernel)
 skip
 refine rv (β:=Unit) (fun _=>{sl:=[(4,.t (esT EA)),(5,.t (.bool true)),(12,.t (.bool true)),(14,.t (esT EN)),(17,.t (.bool true)),(18,.t (.slice 1 ([4,4, -1, -1,4, -1,4,4, -1].map I))),(20,.t (esT EN)),(21,.t (I 0)),(22,.t (esT EA)),(23,.t (I 0))],bx:=[]}) (fun _=>True) ?_ ?_
 ·repeat' ((conv=>whnf);first|refine rD _ (k21) ?_|(exact ⟨(),trivial,by (repeat' (first|exact trivial|exact LeV.same _|exact rfl|exact fun _ _ _=>trivial|refine And.intro ?_ ?_));done⟩)|fail)
 rintro _ _
 clear k21
 have q1:=wE [4,4, -1, -1,4, -1,4,4, -1] (by decide)
 have q2:=Ah EN EN true (by decide) (by decide) kEN kEN (by decide+kernel)
 have q3:=Ah EN EA false (by decide) (by decide) kEN kEA (by decide+kernel)
 have q4:=AQ EA (by decide) kEA 4 (by decide+kernel)
 repeat' ((conv=>whnf);first|exact trivial|refine rD _ (q1) ?_|refine rD _ (q2) ?_|refine rD _ (q3) ?_|refine rD _ (q4) ?_|refine aE1 ?_|refine rb1 ?_|refine aS ?_|fail)
end Go.ST
end
section
end
section
end
section
end
section
end
section
end
section
end
section
end
section
end
section
end
section
end
section
end
section
end
section
end
section
end
section
end
section
end
