/- Joined by program: parts of a data level over the model, of the program's functions over it, and of the statement's proof. -/
import Derived.Test.YtdfkadeceaepeaaGreatGe
set_option maxRecDepth 100000
set_option maxHeartbeats 8000000
section
namespace Go.MM
open Go Go.DL Go.Proofs
theorem xk {k:Nat} (hk:k<160):IntKind.wrap .i64 (15 - (k:Int).tmod 16)=((si k).s:Int):=by
 have h1:(k:Int).tmod 16=((k % 16:Nat):Int):=by rw [Int.tmod_eq_emod_of_nonneg (by omega)];omega
 rw [h1]
 have h2:(15:Int) - ((k % 16:Nat):Int)=((15 - k % 16:Nat):Int):=by omega
 rw [h2,ua (by omega)]
 simp only [Fd.s,si];omega
theorem CQ {x s:Nat}:x ^^^ 2^s=tK x s 1 (1 - tX x s 1):=by
 have hb:tX x s 1<2:=Nat.mod_lt _ (by decide)
 have hn:1 - tX x s 1<2^1:=by omega
 refine Nat.eq_of_testBit_eq fun j=>?_
 rw [tC hn,Nat.testBit_xor,Nat.testBit_two_pow]
 by_cases h1:j<s
 ·rw [if_pos h1]
  have: ¬s=j:=by omega
  simp [this]
 ·rw [if_neg h1]
  by_cases h2:j<s+1
  ·obtain rfl:j=s:=by omega
   rw [if_pos h2,Nat.sub_self]
   have e:=vb x j 1 0
   rw [Nat.zero_add] at e
   simp only [Nat.lt_add_one,decide_true,Bool.true_and] at e
   rw [← e]
   rcases (show tX x j 1=0∨tX x j 1=1 by omega) with h|h <;> rw [h] <;> simp
  ·rw [if_neg h2]
   have: ¬s=j:=by omega
   simp [this]
theorem Be {h:List Int} (hh:HOk h) {k:Nat} (hk:k<160):DCalls Tryz.prog 10 [hd h,I k] (hd (sv k h)):=by
 refine qB (rs:=[.cell 4 30]) mixed Tryz.func10 l10 rfl rfl rfl (r:=[hd (sv k h)]) (nlZ rfl) ?_
 have hf:=tO hk
 have hi:=hf.i
 have hx:=hh.wd (si k).i
 have hil:(si k).i<h.length:=by rw [hh.len];exact hi
 have e1:IntKind.wrap .i64 ((k:Int).tdiv 16)=((si k).i:Int):=ug hf
 have e2:=xk hk
 have hs:(si k).s≤15:=by simp only [Fd.s,si];omega
 refine And.intro (by simp [hh.len]) ?_
 refine And.intro (by decide) ?_
 refine And.intro (show 0≤IntKind.wrap .i64 _∧_ by rw [e1];omega) ?_
 refine r8 (I (wd h (si k).i)) (show 0+(IntKind.wrap .i64 _).toNat * 1<10 by rw [e1];simp;omega) (show (h.map I)[0+(IntKind.wrap .i64 _).toNat * 1]?.getD .nil=_ by
  rw [e1,Int.toNat_natCast,Nat.zero_add,Nat.mul_one,getD_map I h (si k).i .nil hil,hh.get hi]) ?_
 refine And.intro (by decide) ?_
 refine And.intro (show 0≤IntKind.wrap .i64 (15 - _) by rw [e2];omega) ?_
 have ew:ir .xor .i64 (wd h (si k).i) (IntKind.wrap .i64 (1 * 2^(min (IntKind.wrap .i64 (15 - (k:Int).tmod 16)).toNat (IntKind.bits .i64))))=(tK (wd h (si k).i) (si k).s 1 (1 - sL (si k) h):Nat):=by
  have h2:2^(si k).s≤2^15:=Nat.pow_le_pow_right (by decide) hs
  rw [e2,show (1:Int)=((1:Nat):Int) from rfl,xv _ _ (by omega),Nat.one_mul,ua (by omega),zL (by omega) (by omega),CQ]
  rfl
 refine And.intro (show 0≤IntKind.wrap .i64 _∧_ by rw [e1];omega) ?_
 refine And.intro (show 0+(IntKind.wrap .i64 _).toNat * 1<10 by rw [e1];simp;omega) ?_
 refine And.intro ⟨by simp [hh.len],by decide⟩ ?_
 refine ⟨?_,trivial⟩
 refine congrArg some ?_
 show T.agg (aJ u5 0 10 ((h.map I).set (0+(IntKind.wrap .i64 _).toNat * 1) (I (ir _ _ _ _))))=_
 rw [ew,e1,Int.toNat_natCast,Nat.zero_add,Nat.mul_one,map_set]
 simp [aJ,hd,sv,sB,si]
def uG (l:List Fd) (s:ByteArray) (k:Nat):Bool:=match findF l s with
 |some f=>decide (f.a≤k)&&decide (k<f.a+f.w)
 |none=>false
theorem y3 (l:List Fd) (ns:List ByteArray) (k:Nat):sN l ns k=ns.any fun s=>uG l s k:=rfl
theorem CR {α:Type} {l:List α} {f:α→Bool} {i:Nat} (h:i<l.length) (hf:f l[i]=true):l.any f=true:=List.any_eq_true.2 ⟨l[i],List.getElem_mem _,hf⟩
theorem xl (l:List Fd) (hl:LOk l) (ns:List ByteArray) (hn:ns.length<2^60) {k:Nat} (_:k<160):DCalls Tryz.prog 9 [fds l,.slice 1 (ns.map .str),I k] (.bool (sN l ns k)):=by
 refine qB (rs:=[.tmp 6]) mixed Tryz.func9 l9 rfl rfl rfl (r:=[.bool (sN l ns k)]) (nlZ rfl) ?_
 refine qX (α:=Nat) (fun i=>{sl:=[(0,.t (fds l)),(1,.t (.slice 1 (ns.map .str))),(2,.t (I k)),(6,.t (.bool false)),(11,.t (.slice 1 (ns.map .str))),(12,.t (I ns.length)),(13,.t (I i))],bx:=[]})
  (fun i=>i≤ns.length∧ ∀j (h:j<ns.length),j<i→uG l ns[j] k=false) (fun i=>ns.length - i) 0 ⟨by omega,fun j h hj=>by omega⟩ ?_ ?_
 ·repeat' (first|(exact leT (by simp))|exact trivial|exact LeV.same _|exact LeB.same _|exact rfl|exact fun _ _ _=>trivial|exact lI|exact LeV.nil _ _ _|exact lB|refine r9 ?_|refine rO ?_|refine And.intro ?_ ?_)
 rintro i ⟨hi,hno⟩
 rcases Nat.lt_or_ge i ns.length with h|h
 ·have hlt:(i:Int)<(ns.length:Int):=by omega
  have hf:=t74 l ns[i] hl.len
  unfold uR at hf
  cases hF:findF l ns[i] with
  |none=>
   rw [hF] at hf
   have hb1:uG l ns[i] k=false:=by unfold uG;rw [hF]
   simp only at hf
   repeat' ((conv=>whnf);first|exact trivial|refine qd hlt ?_|(refine nv_ (.str ns[i]) (by first|(simp [h];done)|fail) ?_)|refine rq _ (hf) ?_|refine nT_ ?_|refine aE1 ?_|refine aE0 ?_|refine aN1 ?_|refine aN0 ?_|refine aD1 ?_|refine aD0 ?_|refine nE_ (fun hq=>?_) (fun hq=>?_)|refine nN_ (fun hq=>?_) (fun hq=>?_)|refine nD_ (fun hq=>?_) (fun hq=>?_)|refine rb1 ?_|refine rb0 ?_|refine rbx ?_|refine rix ?_|refine aS ?_|fail)
   exact ⟨i+1,⟨h,fun j hj hji=>by
    rcases Nat.lt_or_ge j i with h1|h1
    ·exact hno j hj h1
    ·obtain rfl:j=i:=by omega
     exact hb1⟩,by omega,by (repeat' (first|exact trivial|exact LeV.same _|exact LeB.same _|exact rfl|exact fun _ _ _=>trivial|exact lI|exact LeV.nil _ _ _|exact lB|refine r9 ?_|refine rO ?_|refine And.intro ?_ ?_));done⟩
  |some F=>
   rw [hF] at hf
   have oF:=hl.find hF
   have hw:IntKind.wrap .i64 ((F.a:Int)+(F.w:Int))=((F.a+F.w:Nat):Int):=by
    have:=oF.a;have:=oF.w2
    rw [show (F.a:Int)+(F.w:Int)=((F.a+F.w:Nat):Int) by omega,ua (by omega)]
   simp only at hf
   by_cases hb:F.a≤k∧k<F.a+F.w
   ·have hr:sN l ns k=true:=CR h (by rw [hF];simp [hb.1,hb.2])
    rw [hr]
    have h1:(k:Int)≥(F.a:Int):=by omega
    have h2:(k:Int)<IntKind.wrap .i64 ((F.a:Int)+(F.w:Int)):=by omega
    repeat' ((conv=>whnf);first|exact trivial|refine qd hlt ?_|(refine nv_ (.str ns[i]) (by first|(simp [h];done)|fail) ?_)|refine rq _ (hf) ?_|refine nT_ ?_|refine aE1 ?_|refine aE0 ?_|refine aN1 ?_|refine aN0 ?_|refine aD1 ?_|refine aD0 ?_|refine nE_ (fun hq=>?_) (fun hq=>?_)|refine nN_ (fun hq=>?_) (fun hq=>?_)|refine nD_ (fun hq=>?_) (fun hq=>?_)|refine rb1 ?_|refine rb0 ?_|refine rbx ?_|refine rix ?_|refine aS ?_|fail)
   ·have hb1:uG l ns[i] k=false:=by
     unfold uG;rw [hF]
     by_cases h1:F.a≤k
     ·have: ¬k<F.a+F.w:=fun h2=>hb ⟨h1,h2⟩
      simp [this]
     ·simp [h1]
    have fin:(fun i=>i≤ns.length∧ ∀j (h:j<ns.length),j<i→uG l ns[j] k=false) (i+1):=⟨h,fun j hj hji=>by
     rcases Nat.lt_or_ge j i with h1|h1
     ·exact hno j hj h1
     ·obtain rfl:j=i:=by omega
      exact hb1⟩
    repeat' ((conv=>whnf);first|exact trivial|refine qd hlt ?_|(refine nv_ (.str ns[i]) (by first|(simp [h];done)|fail) ?_)|refine rq _ (hf) ?_|(exact ⟨i+1,fin,by omega,by (repeat' (first|exact trivial|exact LeV.same _|exact LeB.same _|exact rfl|exact fun _ _ _=>trivial|exact lI|exact LeV.nil _ _ _|exact lB|refine r9 ?_|refine rO ?_|refine And.intro ?_ ?_));done⟩)|refine nT_ ?_|refine aE1 ?_|refine aE0 ?_|refine aN1 ?_|refine aN0 ?_|refine aD1 ?_|refine aD0 ?_|refine nE_ (fun hq=>?_) (fun hq=>?_)|refine nN_ (fun hq=>?_) (fun hq=>?_)|refine nD_ (fun hq=>?_) (fun hq=>?_)|refine rb1 ?_|refine rb0 ?_|refine rbx ?_|refine rix ?_|refine aS ?_|fail)
    all_goals (exfalso;omega)
 ·have:i=ns.length:=by omega
  subst this
  have hr:sN l ns k=false:=by
   rw [y3,List.any_eq_false]
   intro s hs
   obtain ⟨j,hj,rfl⟩:=List.getElem_of_mem hs
   rw [hno j hj hj];decide
  rw [hr]
  have hlt: ¬(ns.length:Int)<(ns.length:Int):=by omega
  repeat' ((conv=>whnf);first|exact trivial|refine qc hlt ?_|refine nT_ ?_|refine aE1 ?_|refine aE0 ?_|refine aN1 ?_|refine aN0 ?_|refine aD1 ?_|refine aD0 ?_|refine nE_ (fun hq=>?_) (fun hq=>?_)|refine nN_ (fun hq=>?_) (fun hq=>?_)|refine nD_ (fun hq=>?_) (fun hq=>?_)|refine rb1 ?_|refine rb0 ?_|refine rbx ?_|refine rix ?_|refine aS ?_|fail)
end Go.MM
end
section
namespace Go.MM
open Go Go.DL Go.Proofs Go.TY
theorem zp {α:Type} [DecidableEq α] {lt:α→α→Bool} {x:α}: ∀{l:List α},(put lt l x).length≤l.length+1
 |[]=>by simp [put]
 |y::l=>by
  have:=zp (lt:=lt) (x:=x) (l:=l)
  have hf:=List.length_filter_le (fun y'=> !decide (y'=x)) (y::l)
  unfold put
  split
  ·simp only [List.length_cons] at *;omega
  ·simp only [List.length_cons] at *;omega
theorem xL {α:Type} [DecidableEq α] {lt:α→α→Bool}: ∀{l acc:List α},(l.foldl (put lt) acc).length≤acc.length+l.length
 |[],_=>by simp
 |x::l,acc=>by
  have h1:=zp (lt:=lt) (x:=x) (l:=acc)
  have h2:=xL (lt:=lt) (l:=l) (acc:=put lt acc x)
  rw [List.foldl_cons,List.length_cons]
  omega
theorem xK {α:Type} [DecidableEq α] {lt:α→α→Bool} {l:List α}:(uC lt l).length≤l.length:=by
 have:=xL (lt:=lt) (l:=l) (acc:=[])
 rw [List.length_nil,Nat.zero_add] at this;exact this
theorem Dt (r:RO):(reads r).length≤r.wt:=by
 have h1:=xK (lt:=ltS) (l:=yk r)
 have h2:(yk r).length≤(uJ r).length:=vn fun x _=>by split <;> simp
 have h3:(uJ r).length≤r.wt:=by rw [← zl];exact wP r
 unfold reads;omega
theorem CP (r:RO):(writes r).length≤r.wt:=by
 have h1:=xK (lt:=ltS) (l:=tx r)
 have h2:(tx r).length≤(sE r).length:=vn fun x _=>by split <;> simp
 have h3:(sE r).length≤r.wt:=by rw [uw];exact r.vK
 unfold writes;omega
theorem wL1 (k:Int) (p:RP) (f:ByteArray) (n:Int) (x:RO):tx (.mk k p f n [x])=(if k=2 then [f] else [])++tx x:=by
 simp [tx,sE,sH,RO.kind,RO.field];rfl
theorem wL2 (k:Int) (p:RP) (f:ByteArray) (n:Int) (x y:RO):tx (.mk k p f n [x,y])=(if k=2 then [f] else [])++(tx x++tx y):=by
 simp [tx,sE,sH,RO.kind,RO.field];rfl
theorem pL0 (k:Int) (p:RP) (f:ByteArray) (n:Int):uJ (.mk k p f n [])=if k=1 then sJ p else []:=by
 simp [uJ,zk,sE,sH,RO.kind,RO.pred];rfl
theorem pL1 (k:Int) (p:RP) (f:ByteArray) (n:Int) (x:RO):uJ (.mk k p f n [x])=(if k=1 then sJ p else [])++uJ x:=by
 simp [uJ,zk,sE,sH,RO.kind,RO.pred];rfl
theorem pL2 (k:Int) (p:RP) (f:ByteArray) (n:Int) (x y:RO):uJ (.mk k p f n [x,y])=(if k=1 then sJ p else [])++(uJ x++uJ y):=by
 simp [uJ,zk,sE,sH,RO.kind,RO.pred];rfl
theorem vc {l:List Fd} {b:Fd}: ∀{p:Po},OOk l p→(∀ s∈tx (sq p), ∀F,findF l s=some F→tE b (fld l s))→keeps l b p
 |.filter _,_,_=>trivial
 |.set f n,⟨F,hF,_⟩,h=>h f (by simp [sq,tx,sE,sH,RO.kind,RO.field]) F hF
 |.union p q,ho,h=>by
  simp only [sq,wL2] at h
  exact ⟨vc (p:=p) ho.1 fun s hs=>h s (by simp [hs]),vc (p:=q) ho.2 fun s hs=>h s (by simp [hs])⟩
 |.seq p q,ho,h=>by
  simp only [sq,wL2] at h
  exact ⟨vc (p:=p) ho.1 fun s hs=>h s (by simp [hs]),vc (p:=q) ho.2 fun s hs=>h s (by simp [hs])⟩
 |.star p,ho,h=>by
  simp only [sq,wL1] at h
  exact vc (p:=p) ho fun s hs=>h s (by simp [hs])
theorem ve {l:List Fd} {b:Fd}: ∀{p:Pr},POk l p→(∀ x∈sJ (sU p), ∀F,findF l x.field=some F→tE b (fld l x.field))→xB l b p
 |.tt,_,_=>trivial
 |.ff,_,_=>trivial
 |.time _ _,_,_=>trivial
 |.eq f n,⟨F,hF,_⟩,h=>h (.mk 3 f n 0 []) (by simp [sU,sJ]) F hF
 |.pre f n m,⟨F,hF,_⟩,h=>h (.mk 4 f n m []) (by simp [sU,sJ]) F hF
 |.rng f n m,⟨F,hF,_⟩,h=>h (.mk 5 f n m []) (by simp [sU,sJ]) F hF
 |.not p,ho,h=>by
  refine ve (p:=p) ho fun x hx=>h x ?_
  simp [sU,sJ,sV,hx]
 |.and p q,ho,h=>by
  refine ⟨ve (p:=p) ho.1 fun x hx=>h x ?_,ve (p:=q) ho.2 fun x hx=>h x ?_⟩ <;> simp [sU,sJ,sV,hx]
 |.or p q,ho,h=>by
  refine ⟨ve (p:=p) ho.1 fun x hx=>h x ?_,ve (p:=q) ho.2 fun x hx=>h x ?_⟩ <;> simp [sU,sJ,sV,hx]
theorem vD {l:List Fd} {b:Fd}: ∀{p:Po},OOk l p→(∀ s∈tx (sq p), ∀F,findF l s=some F→tE b (fld l s))→(∀ x∈uJ (sq p), ∀F,findF l x.field=some F→tE b (fld l x.field))→free l b p
 |.filter p,ho,_,g=>by
  simp only [sq,pL0] at g
  exact ve (p:=p) ho fun x hx=>g x (by simpa using hx)
 |.set f n,⟨F,hF,_⟩,h,_=>h f (by simp [sq,tx,sE,sH,RO.kind,RO.field]) F hF
 |.union p q,ho,h,g=>by
  simp only [sq,wL2] at h
  simp only [sq,pL2] at g
  exact ⟨vD (p:=p) ho.1 (fun s hs=>h s (by simp [hs])) fun x hx=>g x (by simp [hx]),vD (p:=q) ho.2 (fun s hs=>h s (by simp [hs])) fun x hx=>g x (by simp [hx])⟩
 |.seq p q,ho,h,g=>by
  simp only [sq,wL2] at h
  simp only [sq,pL2] at g
  exact ⟨vD (p:=p) ho.1 (fun s hs=>h s (by simp [hs])) fun x hx=>g x (by simp [hx]),vD (p:=q) ho.2 (fun s hs=>h s (by simp [hs])) fun x hx=>g x (by simp [hx])⟩
 |.star p,ho,h,g=>by
  simp only [sq,wL1] at h
  simp only [sq,pL1] at g
  exact vD (p:=p) ho (fun s hs=>h s (by simp [hs])) fun x hx=>g x (by simp [hx])
theorem Checked.named {l:List RF} (hc:Checked l) {s:ByteArray} {F:Fd} (hF:findF (l.map RF.fd) s=some F):sk s e0=false:=by
 cases hs:sk s e0 with
 |false=>rfl
 |true=>
  obtain rfl:=uO.1 hs
  exfalso
  unfold findF at hF
  rw [if_neg (by decide)] at hF
  obtain ⟨hm,hn⟩:=List.mem_of_find?_eq_some hF,List.find?_some hF
  obtain ⟨g,hg,rfl⟩:=List.mem_map.1 hm
  have h1:=hc.name g hg
  have h2:g.name=e0:=uO.1 hn
  rw [h2] at h1
  revert h1;decide
theorem AV {l:List Fd} {p:Po} (ho:OOk l p) {k:Nat} (h:sN l (writes (sq p)) k=false):keeps l (si k) p:=
 vc ho fun _ hs _ hF=>vW h (uv.2 hs) hF
theorem Bl {l:List RF} (hc:Checked l) {p:Po} (ho:OOk (l.map RF.fd) p) {k:Nat} (hw:sN (l.map RF.fd) (writes (sq p)) k=false) (hr:sN (l.map RF.fd) (reads (sq p)) k=false):free (l.map RF.fd) (si k) p:=
 vD ho (fun _ hs _ hF=>vW hw (uv.2 hs) hF) fun x hx _ hF=>vW hr (uv.2 (List.mem_flatMap.2 ⟨x,hx,by rw [hc.named hF];simp⟩)) hF
def uF (k:Nat) (b:List (List Int)) (i:Nat):List (List Int):=(b.take i).foldl (fun acc x=>mrg acc [sv k x]) []
theorem vz {k:Nat} {b:List (List Int)} {i:Nat} (h:i<b.length):uF k b (i+1)=mrg (uF k b i) [sv k b[i]]:=by
 unfold uF;rw [List.take_succ_eq_append_getElem h,List.foldl_append];rfl
theorem xQ {k:Nat} (hk:k<160) {b:List (List Int)} (hb:SOk b): ∀i,i≤b.length→SOk (uF k b i)∧ ∀z,z∈uF k b i↔ ∃x∈b.take i,z=sv k x
 |0,_=>⟨tk,fun z=>by simp [uF]⟩
 |i+1,h=>by
  obtain ⟨h1,h2⟩:=xQ hk hb i (by omega)
  have hx:=hb.ok b[i] (List.getElem_mem _)
  have one:=tG (tF hk hx)
  have hm: ∀z,z∈uF k b (i+1)↔ ∃x∈b.take (i+1),z=sv k x:=fun z=>by
   rw [vz h,tn h1.ok.len one.ok.len,h2,List.take_succ_eq_append_getElem h]
   simp only [List.mem_append,List.mem_singleton]
   constructor
   ·rintro (⟨x,hx,rfl⟩|rfl)
    ·exact ⟨x,.inl hx,rfl⟩
    ·exact ⟨_,.inr rfl,rfl⟩
   ·rintro ⟨x,hx|rfl,rfl⟩
    ·exact .inl ⟨x,hx,rfl⟩
    ·exact .inr rfl
  have hs:Srt (uF k b (i+1)):=by rw [vz h];exact tq h1.ok.len one.ok.len h1.srt one.srt
  refine ⟨⟨hs,by rw [vz h];exact tu h1.ok one.ok,?_⟩,hm⟩
  have:=xu hs.nodup (t:=b.map (sv k)) fun z hz=>by
   obtain ⟨x,hx,rfl⟩:=(hm z).1 hz
   exact List.mem_map.2 ⟨x,List.mem_of_mem_take hx,rfl⟩
  rw [List.length_map] at this
  have:=hb.len
  omega
theorem AJ {k:Nat} (hk:k<160) {s t:List (List Int)} (h:FR k (some s) (some t)):uF k t t.length=s:=by
 obtain ⟨o1,o2⟩:=h.sok
 obtain ⟨h1,h2⟩:=xQ hk o2 t.length (Nat.le_refl _)
 refine CK h1 o1 fun z=>?_
 rw [h2,List.take_length]
 constructor
 ·rintro ⟨x,hx,rfl⟩
  exact ((h.1.flip hk).mem x (o2.ok x hx)).1 hx
 ·intro hz
  exact ⟨sv k z,(h.1.mem z (o1.ok z hz)).1 hz,(flip_flip hk (o1.ok z hz)).symm⟩
end Go.MM
end
section
namespace Go.MM
open Go Go.DL Go.Proofs Go.TY
theorem zK {x:Nat} (hx:x<65536) {k:Nat} (hk:k<160):ir .and .i64 ((x:Int).fdiv (2^(min (IntKind.wrap .i64 (15 - (k:Int).tmod 16)).toNat (IntKind.bits .i64)))) 1=((tX x (si k).s 1:Nat):Int):=by
 have hs:(si k).s≤15:=by simp only [Fd.s,si];omega
 rw [xk hk]
 have h1:min (((si k).s:Int)).toNat (IntKind.bits .i64)=(si k).s:=by show min _ 64=_;simp;omega
 rw [h1]
 have h2:(x:Int).fdiv (2^(si k).s)=((x / 2^(si k).s:Nat):Int):=by
  rw [show ((2:Int)^(si k).s)=((2^(si k).s:Nat):Int) by push_cast;rfl,Int.fdiv_eq_ediv_of_nonneg _ (Int.natCast_nonneg _)]
  rfl
 have h3:x / 2^(si k).s≤x:=Nat.div_le_self _ _
 rw [h2,show (1:Int)=((1:Nat):Int) from rfl,xp (by omega) (by omega),Nat.and_one_is_mod]
 rfl
theorem zS {x:List Int} (_:x.length=10):x.map I=aJ [I 0,I 0,I 0,I 0,I 0,I 0,I 0,I 0,I 0,I 0] 0 10 (hd x).cells:=by
 simp [aJ,hd,T.cells]
theorem zD {l:List RF} (hc:Checked l) {p:Po} (op:OOk (l.map RF.fd) p) {h:List Int} (ho:HOk h) {tick:Int} {k:Nat} (hk:k<160):
  ∃(S:List (List Int)) (E:Int),yA (gives (l.map RF.fd) tick p h)= .tup [sd S,I E]∧SOk S∧
   (∀ x∈S, ∀i,i<160→sN (l.map RF.fd) (writes (sq p)) i=false→sL (si i) x=sL (si i) h)∧
   (sN (l.map RF.fd) (reads (sq p)) k=false→sN (l.map RF.fd) (writes (sq p)) k=false→
    ∃S':List (List Int),yA (gives (l.map RF.fd) tick p (sv k h))= .tup [sd S',I E]∧SOk S'∧uF k S' S'.length=S):=by
 have okL:=hc.ok
 have hfit:sN (l.map RF.fd) (reads (sq p)) k=false→sN (l.map RF.fd) (writes (sq p)) k=false→FR k (gives (l.map RF.fd) tick p h) (gives (l.map RF.fd) tick p (sv k h)):=
  fun h1 h2=>ur okL hk op (Bl hc op h2 h1) h ho
 have hden: ∀s,gives (l.map RF.fd) tick p h=some s→SOk s∧ ∀x∈s, ∀i,i<160→sN (l.map RF.fd) (writes (sq p)) i=false→sL (si i) x=sL (si i) h:=fun s e=>
  ⟨tc okL op ho e,fun x hx i hi hb=>uN okL hi op (AV op hb) ho ((den okL op ho e x).1 hx)⟩
 generalize gives (l.map RF.fd) tick p h=G at *
 generalize gives (l.map RF.fd) tick p (sv k h)=G' at *
 cases G with
 |none=>
  refine ⟨[],2,rfl,tk,fun x hx=>(by cases hx),fun h1 h2=>?_⟩
  have:=hfit h1 h2
  cases G' with
  |none=>exact ⟨[],rfl,tk,rfl⟩
  |some s=>exact this.elim
 |some s=>
  refine ⟨s,0,rfl,(hden s rfl).1,(hden s rfl).2,fun h1 h2=>?_⟩
  have:=hfit h1 h2
  cases G' with
  |none=>exact this.elim
  |some t=>exact ⟨t,rfl,this.sok.2,AJ hk this⟩
theorem t_local (l:List RF) (hl:l.length<2^60) (hn: ∀f∈l,f.name.size<2^62) (r:RO) (hr:Sm r) (hw:r.wt<2^39) (h:List Int) (hh:h.length=10) (tick:Int) (bit:Nat) (hb:bit<256):
  DCalls Tryz.prog 3 [vf l,.agg (sg r),hd h,I tick,.int .u8 bit] (.bool true):=by
 refine qB (rs:=[.tmp 10]) mixed Tryz.func3 l3 rfl rfl rfl (r:=[.bool true]) (nlZ rfl) ?_
 have c18:=t18 l hl hn h hh tick [r] (by simp) (fun y hy=>by
  simp only [List.mem_cons,List.not_mem_nil,or_false] at hy
  subst hy
  exact ⟨hr.wt,hr.nm⟩)
 simp only [List.map_cons,List.map_nil,sM] at c18
 have c12:=t12
 cases hR:xi l h tick [r] with
 |false=>
  rw [hR] at c18
  repeat' ((conv=>whnf);first|exact trivial|refine rq _ (c18) ?_|refine rq _ (c12) ?_|refine nT_ ?_|refine aE1 ?_|refine aE0 ?_|refine aN1 ?_|refine aN0 ?_|refine aD1 ?_|refine aD0 ?_|refine nE_ (fun hq=>?_) (fun hq=>?_)|refine nN_ (fun hq=>?_) (fun hq=>?_)|refine nD_ (fun hq=>?_) (fun hq=>?_)|refine rb1 ?_|refine rb0 ?_|refine rbx ?_|refine rix ?_|(refine And.intro (by first|exact sm _|(simp [hh];done)|exact ⟨trivial,sm _⟩|fail) ?_)|refine aS ?_|fail)
 |true=>
 rw [hR] at c18
 obtain ⟨ck,ho,_,_,hall⟩:=Bt hh hR
 have htr:=(hall r (by simp)).1
 obtain ⟨p,rfl,op⟩:=BL htr
 have okL:=ck.ok
 have hfd:=ck.fds
 have hcR:=CM (sq p) hw
 have hcW:=BK (sq p) hw
 have nR:=Dt (sq p)
 have nW:=CP (sq p)
 have hk:bit % 160<160:=Nat.mod_lt _ (by decide)
 have k1:=t28 (l.map RF.fd) okL tick p op h ho
 have k2:=t28 (l.map RF.fd) okL tick p op (sv (bit % 160) h) (tF hk ho)
 rw [← DX] at k1 k2
 obtain ⟨S,E,eS,sS,hloc,hback⟩:=zD (tick:=tick) ck op ho hk
 rw [eS] at k1
 rw [hfd] at c18 ⊢
 have ek:(IntKind.wrap .i64 (bit:Int)).tmod 160=((bit % 160:Nat):Int):=by rw [ua (by omega),Int.tmod_eq_emod_of_nonneg (by omega)];omega
 generalize bit % 160=k at *
 generalize reads (sq p)=R at *
 generalize writes (sq p)=W at *
 generalize l.map RF.fd=L at *
 repeat' ((conv=>whnf);first|exact trivial|refine rq _ (c18) ?_|refine rq _ (hcR) ?_|refine rq _ (hcW) ?_|refine rq _ (k1) ?_|refine nT_ ?_|refine aE1 ?_|refine aE0 ?_|refine aN1 ?_|refine aN0 ?_|refine aD1 ?_|refine aD0 ?_|refine nE_ (fun hq=>?_) (fun hq=>?_)|refine nN_ (fun hq=>?_) (fun hq=>?_)|refine nD_ (fun hq=>?_) (fun hq=>?_)|refine rb1 ?_|refine rb0 ?_|refine rbx ?_|refine rix ?_|(refine And.intro (by first|exact sm _|(simp [hh];done)|exact ⟨trivial,sm _⟩|fail) ?_)|refine aS ?_|fail)
 refine qX (α:=Nat) (fun i=>{sl:=[(0,.t (fds L)),(3,.t (I tick)),(6,.ptr 6 0),(7,.ptr 7 0),(10,.t (.bool false)),(11,.t (.slice 1 (R.map .str))),(12,.t (.slice 1 (W.map .str))),(13,.t (sd S)),(14,.t (I E)),(15,.t (I k)),(47,.t (sd S)),(48,.t (I S.length)),(49,.t (I i))],bx:=[(6,.d 9 (sg (sq p))),(7,.d 10 (h.map I))]})
  (fun i=>i≤S.length) (fun i=>S.length - i) 0 (by omega) ?_ ?_
 ·repeat' (first|(exact leT (by simp [ek]))|exact trivial|exact LeV.same _|exact LeB.same _|exact rfl|exact fun _ _ _=>trivial|exact lI|exact LeV.nil _ _ _|exact lB|refine r9 ?_|refine rO ?_|refine And.intro ?_ ?_)
 ·rintro i hi
  rcases Nat.lt_or_ge i S.length with hiS|hiS
  ·have hlt:(i:Int)<(S.length:Int):=by omega
   have oi:=sS.ok S[i] (List.getElem_mem _)
   have hli:=oi.len
   have hle:=sS.len
   repeat' ((conv=>whnf);first|exact trivial|refine qd hlt ?_|(refine nv_ (hd S[i]) (by first|(simp [hiS];done)|fail) ?_)|refine nT_ ?_|refine aE1 ?_|refine aE0 ?_|refine aN1 ?_|refine aN0 ?_|refine aD1 ?_|refine aD0 ?_|refine nE_ (fun hq=>?_) (fun hq=>?_)|refine nN_ (fun hq=>?_) (fun hq=>?_)|refine nD_ (fun hq=>?_) (fun hq=>?_)|refine rb1 ?_|refine rb0 ?_|refine rbx ?_|refine rix ?_|(refine And.intro (by first|(simp [hd,T.cells,hli];done)|fail) ?_)|refine aS ?_|fail)
   refine qX (α:=Nat) (fun j=>{sl:=[(0,.t (fds L)),(3,.t (I tick)),(6,.ptr 6 0),(7,.ptr 7 0),(10,.t (.bool false)),(11,.t (.slice 1 (R.map .str))),(12,.t (.slice 1 (W.map .str))),(13,.t (sd S)),(14,.t (I E)),(15,.t (I k)),(17,.ptr 17 0),(47,.t (sd S)),(48,.t (I S.length)),(49,.t (I i)),(53,.t (I j))],bx:=[(6,.d 9 (sg (sq p))),(7,.d 10 (h.map I)),(17,.d 10 (S[i].map I))]})
    (fun j=>j≤160) (fun j=>160 - j) 0 (by omega) ?_ ?_
   ·repeat' (first|(exact leT (by simp))|exact trivial|exact LeV.same _|exact LeB.same _|exact rfl|exact fun _ _ _=>trivial|exact lI|exact LeV.nil _ _ _|exact lB|refine r9 ?_|refine rO ?_|refine And.intro ?_ ?_)
    all_goals exact zS hli
   rintro j hj
   rcases Nat.lt_or_ge j 160 with hj1|hj1
   ·have hjl:(j:Int)<160:=by omega
    have e1:IntKind.wrap .i64 ((j:Int).tdiv 16)=((si j).i:Int):=ug (tO hj1)
    have e2:=xk hj1
    have hbi:=(tO hj1).i
    have bA:=zK (oi.wd (si j).i) hj1
    have bB:=zK (ho.wd (si j).i) hj1
    have cB:=xl L okL W (by omega) hj1
    by_cases hE:sL (si j) S[i]=sL (si j) h
    ·have hE:(tX (wd S[i] (si j).i) (si j).s 1:Int)=(tX (wd h (si j).i) (si j).s 1:Int):=congrArg Nat.cast hE
     repeat' ((conv=>whnf);first|exact trivial|refine qd hjl ?_|refine qg (by rw [bA,bB,hE]) ?_|(refine nv_ (I (wd S[i] (si j).i)) (by first|(rw [e1,Int.toNat_natCast,Nat.zero_add,Nat.mul_one,getD_map I S[i] (si j).i .nil (by omega),oi.get hbi];done)|fail) ?_)|(refine nv_ (I (wd h (si j).i)) (by first|(rw [e1,Int.toNat_natCast,Nat.zero_add,Nat.mul_one,getD_map I h (si j).i .nil (by omega),ho.get hbi];done)|fail) ?_)|(exact ⟨j+1,hj1,by omega,by (repeat' (first|exact trivial|exact LeV.same _|exact LeB.same _|exact rfl|exact fun _ _ _=>trivial|exact lI|exact LeV.nil _ _ _|exact lB|refine r9 ?_|refine rO ?_|refine And.intro ?_ ?_));done⟩)|refine nT_ ?_|refine aE1 ?_|refine aE0 ?_|refine aN1 ?_|refine aN0 ?_|refine aD1 ?_|refine aD0 ?_|refine nE_ (fun hq=>?_) (fun hq=>?_)|refine nN_ (fun hq=>?_) (fun hq=>?_)|refine nD_ (fun hq=>?_) (fun hq=>?_)|refine rb1 ?_|refine rb0 ?_|refine rbx ?_|refine rix ?_|(refine And.intro (by first|((rw [e1];constructor <;> omega);done)|((rw [e1];simp;omega);done)|((rw [e2];omega);done)|fail) ?_)|refine aS ?_|fail)
    ·have hbt:sN L W j=true:=by
      cases e:sN L W j with
      |true=>rfl
      |false=>exact absurd (hloc _ (List.getElem_mem _) j hj1 e) hE
     rw [hbt] at cB
     have hE:(tX (wd S[i] (si j).i) (si j).s 1:Int)≠(tX (wd h (si j).i) (si j).s 1:Int):=fun e=>hE (Int.ofNat.inj e)
     repeat' ((conv=>whnf);first|exact trivial|refine qd hjl ?_|(refine qh (by rw [bA,bB];exact hE) ?_)|(refine nv_ (I (wd S[i] (si j).i)) (by first|(rw [e1,Int.toNat_natCast,Nat.zero_add,Nat.mul_one,getD_map I S[i] (si j).i .nil (by omega),oi.get hbi];done)|fail) ?_)|(refine nv_ (I (wd h (si j).i)) (by first|(rw [e1,Int.toNat_natCast,Nat.zero_add,Nat.mul_one,getD_map I h (si j).i .nil (by omega),ho.get hbi];done)|fail) ?_)|refine rq _ (cB) ?_|(exact ⟨j+1,hj1,by omega,by (repeat' (first|exact trivial|exact LeV.same _|exact LeB.same _|exact rfl|exact fun _ _ _=>trivial|exact lI|exact LeV.nil _ _ _|exact lB|refine r9 ?_|refine rO ?_|refine And.intro ?_ ?_));done⟩)|refine nT_ ?_|refine aE1 ?_|refine aE0 ?_|refine aN1 ?_|refine aN0 ?_|refine aD1 ?_|refine aD0 ?_|refine nE_ (fun hq=>?_) (fun hq=>?_)|refine nN_ (fun hq=>?_) (fun hq=>?_)|refine nD_ (fun hq=>?_) (fun hq=>?_)|refine rb1 ?_|refine rb0 ?_|refine rbx ?_|refine rix ?_|(refine And.intro (by first|((rw [e1];constructor <;> omega);done)|((rw [e1];simp;omega);done)|((rw [e2];omega);done)|fail) ?_)|refine aS ?_|fail)
   ·have hjl: ¬(j:Int)<160:=by omega
    repeat' ((conv=>whnf);first|exact trivial|refine qc hjl ?_|(exact ⟨i+1,hiS,by omega,by (repeat' (first|exact trivial|exact LeV.same _|exact LeB.same _|exact rfl|exact fun _ _ _=>trivial|exact lI|exact LeV.nil _ _ _|exact lB|refine r9 ?_|refine rO ?_|refine And.intro ?_ ?_));done⟩)|refine nT_ ?_|refine aE1 ?_|refine aE0 ?_|refine aN1 ?_|refine aN0 ?_|refine aD1 ?_|refine aD0 ?_|refine nE_ (fun hq=>?_) (fun hq=>?_)|refine nN_ (fun hq=>?_) (fun hq=>?_)|refine nD_ (fun hq=>?_) (fun hq=>?_)|refine rb1 ?_|refine rb0 ?_|refine rbx ?_|refine rix ?_|refine aS ?_|fail)
  ·have:i=S.length:=by omega
   subst this
   have hlt: ¬(S.length:Int)<(S.length:Int):=by omega
   have bR:=xl L okL R (by omega) hk
   have bW:=xl L okL W (by omega) hk
   cases hR1:sN L R k with
   |true=>
    rw [hR1] at bR
    repeat' ((conv=>whnf);first|exact trivial|refine qc hlt ?_|refine rq _ (bR) ?_|refine rq _ (c12) ?_|refine nT_ ?_|refine aE1 ?_|refine aE0 ?_|refine aN1 ?_|refine aN0 ?_|refine aD1 ?_|refine aD0 ?_|refine nE_ (fun hq=>?_) (fun hq=>?_)|refine nN_ (fun hq=>?_) (fun hq=>?_)|refine nD_ (fun hq=>?_) (fun hq=>?_)|refine rb1 ?_|refine rb0 ?_|refine rbx ?_|refine rix ?_|refine aS ?_|fail)
   |false=>
   rw [hR1] at bR
   cases hW1:sN L W k with
   |true=>
    rw [hW1] at bW
    repeat' ((conv=>whnf);first|exact trivial|refine qc hlt ?_|refine rq _ (bR) ?_|refine rq _ (bW) ?_|refine rq _ (c12) ?_|refine nT_ ?_|refine aE1 ?_|refine aE0 ?_|refine aN1 ?_|refine aN0 ?_|refine aD1 ?_|refine aD0 ?_|refine nE_ (fun hq=>?_) (fun hq=>?_)|refine nN_ (fun hq=>?_) (fun hq=>?_)|refine nD_ (fun hq=>?_) (fun hq=>?_)|refine rb1 ?_|refine rb0 ?_|refine rbx ?_|refine rix ?_|refine aS ?_|fail)
   |false=>
   rw [hW1] at bW
   obtain ⟨S',e',s',hS'⟩:=hback hR1 hW1
   rw [e'] at k2
   have cF:=Be ho hk
   repeat' ((conv=>whnf);first|exact trivial|refine qc hlt ?_|refine rq _ (bR) ?_|refine rq _ (bW) ?_|refine rq _ (cF) ?_|refine rq _ (k2) ?_|refine nT_ ?_|refine aE1 ?_|refine aE0 ?_|refine aN1 ?_|refine aN0 ?_|refine aD1 ?_|refine aD0 ?_|refine nE_ (fun hq=>?_) (fun hq=>?_)|refine nN_ (fun hq=>?_) (fun hq=>?_)|refine nD_ (fun hq=>?_) (fun hq=>?_)|refine rb1 ?_|refine rb0 ?_|refine rbx ?_|refine rix ?_|(refine And.intro (by first|exact sm _|(simp [];done)|exact ⟨trivial,sm _⟩|fail) ?_)|refine aS ?_|fail)
   refine qX (α:=Nat) (fun i=>{sl:=[(13,.t (sd S)),(14,.t (I E)),(15,.t (I k)),(19,.t (sd S')),(20,.t (I E)),(21,.t (sd (uF k S' i))),(105,.t (sd S')),(106,.t (I S'.length)),(107,.t (I i))],bx:=[]})
    (fun i=>i≤S'.length) (fun i=>S'.length - i) 0 (by omega) ?_ ?_
   ·repeat' (first|(exact LeV.empty 10)|(exact leT (by simp))|exact trivial|exact LeV.same _|exact LeB.same _|exact rfl|exact fun _ _ _=>trivial|exact lI|exact LeV.nil _ _ _|exact lB|refine r9 ?_|refine rO ?_|refine And.intro ?_ ?_)
   rintro i hi
   rcases Nat.lt_or_ge i S'.length with hiS|hiS
   ·have hlt:(i:Int)<(S'.length:Int):=by omega
    have oi:=s'.ok S'[i] (List.getElem_mem _)
    have hli:=oi.len
    have hle:=s'.len
    have cF:=Be oi hk
    have cF:DCalls Tryz.prog 10 [T.agg (aJ [I 0,I 0,I 0,I 0,I 0,I 0,I 0,I 0,I 0,I 0] 0 10 (S'[i].map I)),I k] (hd (sv k S'[i])):=by
     rw [show aJ [I 0,I 0,I 0,I 0,I 0,I 0,I 0,I 0,I 0,I 0] 0 10 (S'[i].map I)=S'[i].map I from (zS hli).symm];exact cF
    have cM:=Gq (uF k S' i) [sv k S'[i]] (xQ hk s' i (by omega)).1 (tG (tF hk oi))
    rw [← vz hiS] at cM
    repeat' ((conv=>whnf);first|exact trivial|refine qd hlt ?_|(refine nv_ (hd S'[i]) (by first|(simp [hiS];done)|fail) ?_)|refine rq _ (cF) ?_|refine rq _ (cM) ?_|(exact ⟨i+1,hiS,by omega,by (repeat' (first|exact trivial|exact LeV.same _|exact LeB.same _|exact rfl|exact fun _ _ _=>trivial|exact lI|exact LeV.nil _ _ _|exact lB|refine r9 ?_|refine rO ?_|refine And.intro ?_ ?_));done⟩)|refine nT_ ?_|refine aE1 ?_|refine aE0 ?_|refine aN1 ?_|refine aN0 ?_|refine aD1 ?_|refine aD0 ?_|refine nE_ (fun hq=>?_) (fun hq=>?_)|refine nN_ (fun hq=>?_) (fun hq=>?_)|refine nD_ (fun hq=>?_) (fun hq=>?_)|refine rb1 ?_|refine rb0 ?_|refine rbx ?_|refine rix ?_|(refine And.intro (by first|(simp [hd,T.cells,hli];done)|(simp [(tF hk oi).len];done)|fail) ?_)|refine aS ?_|fail)
   ·have:i=S'.length:=by omega
    subst this
    have hlt: ¬(S'.length:Int)<(S'.length:Int):=by omega
    rw [hS']
    have c14:=t14 S S sS.ok.len sS.ok.len (by have:=sS.len;omega)
    rw [beq_self_eq_true] at c14
    repeat' ((conv=>whnf);first|exact trivial|refine qc hlt ?_|refine rq _ (c12) ?_|refine rq _ (c14) ?_|refine nT_ ?_|refine aE1 ?_|refine aE0 ?_|refine aN1 ?_|refine aN0 ?_|refine aD1 ?_|refine aD0 ?_|refine nE_ (fun hq=>?_) (fun hq=>?_)|refine nN_ (fun hq=>?_) (fun hq=>?_)|refine nD_ (fun hq=>?_) (fun hq=>?_)|refine rb1 ?_|refine rb0 ?_|refine rbx ?_|refine rix ?_|refine aS ?_|fail)
end Go.MM
end
section
namespace Go.MM
open Go Go.DL Go.Proofs
theorem aInt {us:List T} (h:cm Tryz.prog 3 us): ∃n,mkT Tryz.prog 3 us=I n:=by
 obtain ⟨n,rfl,_⟩:=uS h
 exact ⟨n,by unfold mkT;rw [Tryz.underlying3];rfl⟩
theorem aHead {us:List T} (h:cm Tryz.prog 30 us): ∃h,mkT Tryz.prog 30 us=hd h∧h.length=10:=by
 obtain ⟨x,rfl,hx,_⟩:=CA h
 exact ⟨x,F7 _,hx⟩
theorem aPol {us:List T} (h:cm Tryz.prog 28 us) (hb:aR us≤1048576): ∃r,Les (mkT Tryz.prog 28 us) (.agg (sg r))∧Sm r∧r.wt≤1048576:=by
 obtain ⟨r,r1,r2,r3⟩:=(A9 h).1 rfl
 exact ⟨r,by rw [C6];exact Les.agg r1,⟨by omega,r3 (by omega)⟩,by omega⟩
theorem aFields {us:List T} (h:cm Tryz.prog 22 us) (hb:aR us≤1048576): ∃l,Les (mkT Tryz.prog 22 us) (vf l)∧l.length<2^60∧ ∀f∈l,f.name.size<2^62:=by
 obtain ⟨l,h1,h2,h3⟩:=A8 h
 exact ⟨l,h1,by omega,fun f hf=>by have:=h3 f hf;omega⟩
end Go.MM
end
section
namespace Go.MM
open Go Go.DL Go.Proofs
def typesL:List TypeId:=5::types
theorem typesL_ok:eH Tryz.prog typesL=true:=by kernel_rfl
theorem aU8 {us:List T} (h:cm Tryz.prog 5 us): ∃n:Nat,mkT Tryz.prog 5 us= .int .u8 n∧n<256:=by
 cases h with
 |int h n hw=>
  rw [Tryz.underlying5] at h;cases h
  simp only [Lit.wf,Bool.and_eq_true,decide_eq_true_eq] at hw
  have e1:IntKind.u8.min=0:=by decide
  have e2:IntKind.u8.max=255:=by decide
  rw [e1,e2] at hw
  refine ⟨n.toNat,?_,by omega⟩
  unfold mkT;rw [Tryz.underlying5]
  show T.int .u8 n=_
  rw [Int.toNat_of_nonneg hw.1]
 |bool h|str h|nil h|slice h|struct h|array h=>rw [Tryz.underlying5] at h;cases h
end Go.MM
end
