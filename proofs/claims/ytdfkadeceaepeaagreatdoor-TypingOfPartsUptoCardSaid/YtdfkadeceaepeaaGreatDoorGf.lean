/- Joined by program: parts of a data level over the model, of the program's functions over it, and of the statement's proof. -/
import Derived.Test.YtdfkadeceaepeaaGreatDoorGe
import Derived.Test.YtdfkadeceaepeaaGreatDoorProg
import Derived.Test.YtdfkadeceaepeaaGreatDoorGc
import Derived.KernelRfl
set_option maxRecDepth 100000
set_option maxHeartbeats 8000000
section
namespace Go.TY
open Go Go.DL Go.MM Go.Proofs
theorem GY {out:List ByteArray} {s:ByteArray}: ∀{k:Nat},k≤out.length→(∀ j (h:j<out.length),j<k→ltS out[j] s=true)→(∀ (h:k<out.length),ltS out[k] s=false)→s ∉ out→put ltS out s=out.take k++s::out.drop k:=by
 induction out with
 |nil=>intro k hk _ _ _;simp [put]
 |cons x xs ih=>
  intro k hk h1 h2 h3
  cases k with
  |zero=>
   have h0:=h2 (by simp)
   simp only [List.getElem_cons_zero] at h0
   unfold put
   rw [if_neg (by rw [h0];simp)]
   rw [List.take_zero,List.drop_zero,List.nil_append]
   congr 1
   rw [List.filter_eq_self]
   intro y hy
   have:y≠s:=fun e=>h3 (e▸hy)
   simp [this]
  |succ k=>
   have h0:=h1 0 (by simp) (by omega)
   simp only [List.getElem_cons_zero] at h0
   unfold put
   rw [if_pos h0,ih (k:=k) (by simpa using hk) (fun j hj hlt=>h1 (j+1) (Nat.succ_lt_succ hj) (by omega)) (fun h=>h2 (Nat.succ_lt_succ h)) (fun hm=>h3 (by simp [hm]))]
   rfl
theorem FT {out:List ByteArray} (hi:Inc ltS out) {s:ByteArray} {k:Nat} (hk:k≤out.length) (h1: ∀j (h:j<out.length),j<k→ltS out[j] s=true) (h2: ∀(h:k<out.length),ltS out[k] s=false):
  (∀ (h:k<out.length),out[k]=s→tl out s=out)∧((∀ (h:k<out.length),out[k]≠s)→tl out s=out.take k++s::out.drop k):=by
 refine ⟨fun h e=>?_,fun hne=>?_⟩
 ·unfold tl
  rw [if_pos (e▸List.getElem_mem h)]
 ·have hn:s ∉ out:=fun hm=>by
   obtain ⟨j,hj,e⟩:=List.getElem_of_mem hm
   rcases Nat.lt_trichotomy j k with h|h|h
   ·have:=h1 j hj h
    rw [e,wk.irr] at this;cases this
   ·subst h;exact hne hj e
   ·have hkl:k<out.length:=by omega
    have:=List.pairwise_iff_getElem.1 hi k j hkl hj h
    rw [e] at this
    rw [h2 hkl] at this;cases this
  unfold tl
  rw [if_neg hn]
  exact GY hk h1 h2 hn
theorem Es {out:List ByteArray} (h:Inc ltS out) (s:ByteArray):Inc ltS (tl out s):=by rw [Ak h];exact h.put wk s
theorem Et (out:List ByteArray) (s:ByteArray):(tl out s).length≤out.length+1:=by
 unfold tl
 split
 ·omega
 ·exact zq
theorem Al (a b:List ByteArray) (ha:a.length<2^39) (hb:b.length<2^39):DCalls Tryz.prog 35 [.slice 1 (a.map .str),.slice 1 (b.map .str)] (.slice 1 (((a++b).foldl tl []).map .str)):=by
 refine qO (rs:=[.tmp 4]) mixed Tryz.func35 l35 rfl rfl rfl (r:=[.slice 1 _]) (nlZ rfl) ?_
 have hab:a.map T.str++b.map T.str=(a++b).map T.str:=by rw [List.map_append]
 have hal:(a++b).length<2^40:=by rw [List.length_append];omega
 repeat' ((conv=>whnf);first|refine aS ?_|fail)
 have hn0:(([]:List T)++a.map T.str++b.map T.str)=(a++b).map T.str:=by rw [List.nil_append,hab]
 generalize hall:a++b=all at *
 have hll:((all.map T.str).length:Int)=all.length:=by rw [List.length_map]
 refine qZ 0 (α:=Nat×List ByteArray) (β:=List ByteArray) (fun p=>{sl:=[(5,.t (.slice 1 (p.2.map .str))),(14,.t (.slice 1 (all.map .str))),(15,.t (I all.length)),(16,.t (I p.1))],bx:=[]})
  (fun p=>p.1≤all.length∧p.2=(all.take p.1).foldl tl []∧Inc ltS p.2∧p.2.length≤p.1) (fun p=>all.length - p.1)
  (fun out=>{sl:=[(5,.t (.slice 1 (out.map .str)))],bx:=[]}) (fun out=>out=all.foldl tl []) (0,[]) ⟨by simp,rfl,List.Pairwise.nil,by simp⟩ ?_ ?_ ?_
 ·repeat' (first|(exact LeV.empty _)|(exact Am hn0.symm)|(exact leI (by rw [← hall];simp;done))|exact trivial|exact LeV.same _|exact rfl|exact fun _ _ _=>trivial|refine And.intro ?_ ?_)
 ·rintro ⟨i,out⟩ ⟨hi,ho,hinc,hol⟩
  dsimp only at hi ho hinc hol
  rcases Nat.lt_or_ge i all.length with h|h
  ·have hlt:(i:Int)<(all.length:Int):=by omega
   have hilt:(i:Int)<((all.map T.str).length:Int):=by omega
   have hx:(all.map T.str)[i]?.getD .nil= .str all[i]:=by simp [h]
   have hnx:tl out all[i]=(all.take (i+1)).foldl tl []:=by rw [List.take_succ_eq_append_getElem h,List.foldl_append, ←ho];rfl
   have hmu:all.length - (i+1)<all.length - i:=by omega
   have inv:i+1≤all.length∧tl out all[i]=(all.take (i+1)).foldl tl []∧Inc ltS (tl out all[i])∧(tl out all[i]).length≤i+1:=⟨h,hnx,Es hinc _,by have:=Et out all[i];omega⟩
   clear hnx ho
   generalize all[i]=s at *
   have hoo:((out.map T.str).length:Int)=out.length:=by rw [List.length_map]
   repeat' ((conv=>whnf);first|refine qv hlt ?_|(refine nv_ (.str s) (by first|exact hx|fail) ?_)|refine nT_ ?_|refine aS ?_|fail)
   refine qZ 2 (α:=Nat) (β:=Nat) (fun k=>{sl:=[(5,.t (.slice 1 (out.map .str))),(7,.t (.str s)),(8,.t (I k)),(14,.t (.slice 1 (all.map .str))),(15,.t (I all.length)),(16,.t (I i))],bx:=[]})
    (fun k=>k≤out.length∧ ∀j (h:j<out.length),j<k→ltS out[j] s=true) (fun k=>out.length - k)
    (fun k=>{sl:=[(5,.t (.slice 1 (out.map .str))),(7,.t (.str s)),(8,.t (I k)),(14,.t (.slice 1 (all.map .str))),(15,.t (I all.length)),(16,.t (I i))],bx:=[]}) (fun k=>k≤out.length∧(∀ j (h:j<out.length),j<k→ltS out[j] s=true)∧(∀ (h:k<out.length),ltS out[k] s=false)) 0 (by simp) ?_ ?_ ?_
   ·repeat' (first|exact trivial|exact LeV.same _|exact rfl|exact fun _ _ _=>trivial|refine And.intro ?_ ?_)
   ·rintro k ⟨hk,hp⟩
    rcases Nat.lt_or_ge k out.length with h2|h2
    ·have hlt2:(k:Int)<((out.map T.str).length:Int):=by omega
     have hy:(out.map T.str)[k]?.getD .nil= .str out[k]:=by simp [h2]
     cases hb2:ltS out[k] s with
     |true=>
      have hq:Op.bytesLess out[k].toList s.toList=true:=hb2
      repeat' ((conv=>whnf);first|refine qv hlt2 ?_|(refine nv_ (.str out[k]) (by first|exact hy|fail) ?_)|refine nb_ _ hq ?_|refine nT_ ?_|refine aS ?_|fail)
      refine ⟨k+1,⟨h2,fun j hj hlt=>?_⟩,by omega,?_⟩
      ·rcases Nat.lt_or_ge j k with h4|h4
       ·exact hp j hj h4
       ·obtain rfl:j=k:=by omega
        exact hb2
      ·repeat' (first|exact trivial|exact LeV.same _|exact rfl|exact fun _ _ _=>trivial|exact lI|refine And.intro ?_ ?_)
     |false=>
      have hq:Op.bytesLess out[k].toList s.toList=false:=hb2
      have e:k≤out.length∧(∀ j (h:j<out.length),j<k→ltS out[j] s=true)∧(∀ (h:k<out.length),ltS out[k] s=false):=⟨hk,hp,fun _=>hb2⟩
      repeat' ((conv=>whnf);first|refine qv hlt2 ?_|(refine nv_ (.str out[k]) (by first|exact hy|fail) ?_)|refine nb_ _ hq ?_|(exact ⟨k,e,by (repeat' (first|exact trivial|exact LeV.same _|exact rfl|exact fun _ _ _=>trivial|refine And.intro ?_ ?_));done⟩)|refine nT_ ?_|refine aS ?_|fail)
    ·have hlt2: ¬(k:Int)<((out.map T.str).length:Int):=by omega
     have e:k≤out.length∧(∀ j (h:j<out.length),j<k→ltS out[j] s=true)∧(∀ (h:k<out.length),ltS out[k] s=false):=⟨hk,hp,fun h=>absurd h (by omega)⟩
     repeat' ((conv=>whnf);first|refine qu hlt2 ?_|(exact ⟨k,e,by (repeat' (first|exact trivial|exact LeV.same _|exact rfl|exact fun _ _ _=>trivial|refine And.intro ?_ ?_));done⟩)|refine aS ?_|fail)
   ·rintro k ⟨hk,hp1,hp2⟩
    obtain ⟨j1,j2⟩:=FT hinc hk hp1 hp2
    clear hp1 hp2 hinc
    have hkk:(k:Int)≤((out.map T.str).length:Int):=by omega
    rcases Nat.lt_or_ge k out.length with h2|h2
    ·have hlt2:(k:Int)<((out.map T.str).length:Int):=by omega
     have hne2:(k:Int)≠((out.map T.str).length:Int):=by omega
     have hy:(out.map T.str)[k]?.getD .nil= .str out[k]:=by simp [h2]
     have hE:(!(out[k].toList==s.toList))= !sC out[k] s:=by rw [sR]
     cases hb2:sC out[k] s with
     |true=>
      rw [hb2] at hE
      have e:=j1 h2 (tj.1 hb2)
      rw [e] at inv
      clear j1 j2 e
      repeat' ((conv=>whnf);first|refine qw hne2 ?_|(refine nv_ (.str out[k]) (by first|exact hy|fail) ?_)|refine nb_ _ hE ?_|(exact ⟨(i+1,out),inv,hmu,by (repeat' (first|exact trivial|exact LeV.same _|exact rfl|exact fun _ _ _=>trivial|exact lI|refine And.intro ?_ ?_));done⟩)|refine nT_ ?_|refine aS ?_|fail)
     |false=>
      rw [hb2] at hE
      have e:=j2 fun h e=>by rw [tj.2 e] at hb2;cases hb2
      have e2:(tl out s).map T.str=(out.map T.str).take k++([T.str s]++(out.map T.str).drop k):=by rw [e];simp
      replace e2:(tl out s).map T.str=(out.map T.str).take (k:Int).toNat++([T.str s]++((out.map T.str).take ((out.map T.str).length:Int).toNat).drop (k:Int).toNat):=by rw [Int.toNat_natCast,Int.toNat_natCast,List.take_length];exact e2
      clear j1 j2 e
      repeat' ((conv=>whnf);first|refine qw hne2 ?_|(refine nv_ (.str out[k]) (by first|exact hy|fail) ?_)|refine nb_ _ hE ?_|refine nT_ ?_|(refine And.intro (by first|((simp only [List.length_map,List.length_append,List.length_take,List.length_drop];omega);done)|((refine ⟨Or.inl rfl,?_⟩;simp only [List.length_map,List.length_append,List.length_take,List.length_drop];omega);done)|(exact ⟨by omega,rfl,by simp;omega⟩;done)|fail) ?_)|refine aS ?_|fail)
      refine ⟨(i+1,tl out s),inv,hmu,?_⟩
      repeat' (first|(exact leT (congrArg (T.slice 1) e2))|exact trivial|exact LeV.same _|exact rfl|exact fun _ _ _=>trivial|exact lI|refine And.intro ?_ ?_)
    ·have heq:(k:Int)=((out.map T.str).length:Int):=by omega
     have e:=j2 fun h=>absurd h (by omega)
     have e2:(tl out s).map T.str=(out.map T.str).take k++([T.str s]++(out.map T.str).drop k):=by rw [e];simp
     replace e2:(tl out s).map T.str=(out.map T.str).take (k:Int).toNat++([T.str s]++((out.map T.str).take ((out.map T.str).length:Int).toNat).drop (k:Int).toNat):=by rw [Int.toNat_natCast,Int.toNat_natCast,List.take_length];exact e2
     clear j1 j2 e
     repeat' ((conv=>whnf);first|refine qx heq ?_|refine nT_ ?_|(refine And.intro (by first|((simp only [List.length_map,List.length_append,List.length_take,List.length_drop];omega);done)|((refine ⟨Or.inl rfl,?_⟩;simp only [List.length_map,List.length_append,List.length_take,List.length_drop];omega);done)|(exact ⟨by omega,rfl,by simp;omega⟩;done)|fail) ?_)|refine aS ?_|fail)
     refine ⟨(i+1,tl out s),inv,hmu,?_⟩
     repeat' (first|(exact leT (congrArg (T.slice 1) e2))|exact trivial|exact LeV.same _|exact rfl|exact fun _ _ _=>trivial|exact lI|refine And.intro ?_ ?_)
  ·have hlt: ¬(i:Int)<(all.length:Int):=by omega
   rw [List.take_of_length_le h] at ho
   repeat' ((conv=>whnf);first|refine qu hlt ?_|(exact ⟨out,ho,by (repeat' (first|exact trivial|exact LeV.same _|exact rfl|exact fun _ _ _=>trivial|refine And.intro ?_ ?_));done⟩)|refine aS ?_|fail)
 ·rintro out ho
  rw [← ho]
  repeat' ((conv=>whnf);first|exact trivial|refine aS ?_|fail)
end Go.TY
end
section
namespace Go.TY
open Go Go.DL Go.Proofs
noncomputable def c5:aY:=(.seq (.region [oo 4 (.box 9 (tm 1)),oo 5 (.box 9 (tm 2)),oo 6 (.mov kF)] []) (.seq (.region [oo 18 (.call 10 []),mv 7 18] []) (.seq (.seq (.region [mv 19 0,oo 20 (.call 11 [tm 19]),oo 21 (.bin .neq (tm 20) (Kc 0)),mv 22 21,oF 23 22 (.load 9 true (tm 4)),oF 24 22 (.call 13 [tm 23]),oF 25 22 (.not (tm 24)),oo 26 (.pick (tm 22) kT (tm 25)),mv 27 26,oF 28 27 (.load 9 true (tm 5)),oF 29 27 (.call 13 [tm 28]),oF 30 27 (.not (tm 29)),oo 31 (.pick (tm 27) kT (tm 30))] []) (.cond (tm 31) (.seq (.region [mv 32 7,mv 6 32] []) .ret) .skip)) (.seq (.region [mv 33 0,lA 34 9 4,oo 35 (.call 17 [(tm 33),(tm 34)]),mv 8 35] []) (.seq (.region [mv 36 0,lA 37 9 5,oo 38 (.call 17 [(tm 36),(tm 37)]),mv 9 38] []) (.seq (.region [lA 39 9 4,lA 40 9 5,oo 41 (.call 32 [(tm 39),(tm 40)]),⟨some 10,.alloc [Z0,Z0,S0,Z0,Z0,.nil,S0,Z0,.nil],none,[]⟩,o0 (.store 9 (tm 10) (tm 41))] []) (.seq (.cut (.region [lA 42 9 4,lA 43 9 5,oo 44 (.call 33 [(tm 42),(tm 43)]),⟨some 11,.alloc [Z0,Z0,S0,Z0,Z0,.nil,S0,Z0,.nil],none,[]⟩,o0 (.store 9 (tm 11) (tm 44))] [])) (.seq (.region [mv 45 0,lA 46 9 10,oo 47 (.call 17 [(tm 45),(tm 46)]),mv 12 47] []) (.seq (.seq (.cut (.region [mv 48 12,mv 49 0,lA 50 9 11,oo 51 (.call 17 [(tm 49),(tm 50)]),oo 52 (.bin .neq (tm 48) (tm 51)),mv 53 52,mF 54 8 53,oF 55 53 (.bin .eql (tm 54) (Kc 2)),mF 56 55 53,mT 57 12 56,oT 58 56 (.bin .neq (tm 57) (Kc 2)),oF 59 53 (.pick (tm 56) (tm 58) kF),oo 60 (.pick (tm 53) kT (tm 59)),mv 61 60,mF 62 9 61,oF 63 61 (.bin .eql (tm 62) (Kc 2)),mF 64 63 61,mT 65 12 64,oT 66 64 (.bin .neq (tm 65) (Kc 2)),oF 67 61 (.pick (tm 64) (tm 66) kF),oo 68 (.pick (tm 61) kT (tm 67))] [])) (.cond (tm 68) (.seq (.region [oo 6 (.mov kF)] []) .ret) .skip)) (.seq (.region [lA 69 9 10,oo 70 (.call 34 [tm 69]),oo 13 (.alloc [Z0,Z0]),o0 (.store 2 (tm 13) (tm 70))] []) (.seq (.seq (.cut (.region [fa 71 0 13,ld 72 71,oo 73 (.bin .gtr (tm 72) (Kc 200)),mv 74 73,oF 75 74 (.offA 1 (tm 13)),oF 76 74 (.load 1 false (tm 75)),oF 77 74 (.bin .gtr (tm 76) (Kc 20)),oo 78 (.pick (tm 74) kT (tm 77))] [])) (.cond (tm 78) (.seq (.region [mv 79 7,mv 80 79,mT 81 12 80,oT 82 80 (.bin .eql (tm 81) (Kc 2)),oo 83 (.pick (tm 80) (tm 82) kF),mv 6 83] []) .ret) .skip)) (.seq (.seq (.cut (.region [mv 84 12,oo 85 (.bin .eql (tm 84) (Kc 0)),mv 86 8,oo 87 (.bin .eql (tm 86) (Kc 0)),mv 88 87,mT 89 9 88,oT 90 88 (.bin .eql (tm 89) (Kc 0)),oo 91 (.pick (tm 88) (tm 90) kF),oo 92 (.eqB true (tm 85) (tm 91))] [])) (.cond (tm 92) (.seq (.region [oo 6 (.mov kF)] []) .ret) .skip)) (.seq (.seq (.region [mv 93 12,oo 94 (.bin .neq (tm 93) (Kc 0))] []) (.cond (tm 94) (.seq (.region [mv 95 7,mv 6 95] []) .ret) .skip)) (.seq (.region [lA 96 9 4,oo 97 (.call 30 [tm 96]),mv 14 97] []) (.seq (.cut (.region [lA 98 9 5,oo 99 (.call 30 [tm 98]),mv 15 99] [])) (.seq (.region [lA 100 9 4,oo 101 (.call 23 [tm 100]),lA 102 9 5,oo 103 (.call 23 [tm 102]),oo 104 (.call 35 [(tm 101),(tm 103)]),mv 16 104] []) (.seq (.cut (.region [lA 105 9 4,oo 106 (.call 25 [tm 105]),lA 107 9 5,oo 108 (.call 25 [tm 107]),oo 109 (.call 35 [(tm 106),(tm 108)]),mv 17 109] [])) (.seq (.seq (.cut (.region [lA 110 9 10,oo 111 (.call 23 [tm 110]),mv 112 16,oo 113 (.call 22 [(tm 111),(tm 112)]),oo 114 (.not (tm 113)),mv 115 114,oF 116 115 (.load 9 true (tm 11)),oF 117 115 (.call 23 [tm 116]),mF 118 16 115,oF 119 115 (.call 22 [(tm 117),(tm 118)]),oF 120 115 (.not (tm 119)),oo 121 (.pick (tm 115) kT (tm 120)),mv 122 121,oF 123 122 (.load 9 true (tm 10)),oF 124 122 (.call 25 [tm 123]),mF 125 17 122,oF 126 122 (.call 22 [(tm 124),(tm 125)]),oF 127 122 (.not (tm 126)),oo 128 (.pick (tm 122) kT (tm 127)),mv 129 128,oF 130 129 (.load 9 true (tm 11)),oF 131 129 (.call 25 [tm 130]),mF 132 17 129,oF 133 129 (.call 22 [(tm 131),(tm 132)]),oF 134 129 (.not (tm 133)),oo 135 (.pick (tm 129) kT (tm 134))] [])) (.cond (tm 135) (.seq (.region [oo 6 (.mov kF)] []) .ret) .skip)) (.seq (.region [mv 136 7,mv 137 136,oT 138 137 (.load 9 true (tm 10)),oT 139 137 (.call 30 [tm 138]),mT 140 14 137,mT 141 15 137,oT 142 137 (.bin .mul (tm 140) (tm 141)),oT 143 137 (.minI (tm 142) (Kc 65536)),oT 144 137 (.bin .eql (tm 139) (tm 143)),oo 145 (.pick (tm 137) (tm 144) kF),mv 146 145,oT 147 146 (.load 9 true (tm 11)),oT 148 146 (.call 30 [tm 147]),mT 149 14 146,mT 150 15 146,oT 151 146 (.bin .add (tm 149) (tm 150)),oT 152 146 (.minI (tm 151) (Kc 65536)),oT 153 146 (.bin .eql (tm 148) (tm 152)),oo 154 (.pick (tm 146) (tm 153) kF),mv 6 154] []) .ret)))))))))))))))))))
theorem l5:(Tryz.f5.body.bind (bD Tryz.prog 155 [6000007,6000009,6000012,6000014,6000019,6000021,6000022]))=some c5:=by kernel_rfl
end Go.TY
end
section
namespace Go.TY
open Go Go.DL Go.MM Go.Proofs
theorem vG {l:List Fd} {r:RO} (h:sY l r=0):sX r=true:=(yV.1 h).1.2
theorem xQ (r:RO):(reads r).length≤r.wt:=by
 have h1:=xy (lt:=ltS) (l:=u9 r)
 have h2:(u9 r).length≤(wK r).length:=uR fun x _=>by split <;> simp
 have h3:=EA r
 unfold reads;omega
theorem xD (r:RO):(writes r).length≤r.wt:=by
 have h1:=xy (lt:=ltS) (l:=uG r)
 have h2:(uG r).length≤(tz r).length:=uR fun x _=>by split <;> simp
 have h3:=DM r
 unfold writes;omega
theorem xR {k:Int} (hk:k=3∨k=4) (x y:RO):(reads x++reads y).foldl tl []=reads (sF k x y):=by
 unfold reads
 rw [zB (c:=u9 (sF k x y)) fun z=>by rw [Cc hk,List.mem_append]]
theorem xE {k:Int} (hk:k=3∨k=4) (x y:RO):(writes x++writes y).foldl tl []=writes (sF k x y):=by
 unfold writes
 rw [zB (c:=uG (sF k x y)) fun z=>by rw [Bs hk,List.mem_append]]
theorem law5 (l:List RF) (hl:l.length<2^60) (hn: ∀f∈l,f.name.size<2^62) (x y:RO) (hx1:x.wt<2^37) (hx2:tX x) (hy1:y.wt<2^37) (hy2:tX y):
  DCalls Tryz.prog 5 [vV l,.agg (sA x),.agg (sA y)] (.bool true):=by
 refine qO (rs:=[.tmp 6]) mixed Tryz.func5 l5 rfl rfl rfl (r:=[.bool true]) (nlZ rfl) ?_
 have h0:=EK
 have h1:=t47 l hl hn
 have f1:=yy x (by omega)
 have f2:=yy y (by omega)
 have hxl:=sE x
 have hyl:=sE y
 by_cases hc:wN l=0
 case neg=>
  generalize wN l=c at *
  generalize sA x=cx at *
  generalize sA y=cy at *
  repeat' ((conv=>whnf);first|exact trivial|refine rE _ (h0) ?_|refine rE _ (h1) ?_|refine qz hc ?_|refine rb1 ?_|(refine And.intro (by first|exact hxl|exact hyl|fail) ?_)|refine aS ?_|fail)
 have ck:=BO hc
 have hok:=ck.ok
 have hfd:=ck.fds
 rw [hc] at h1
 generalize l.map RF.fd=L at *
 rw [hfd] at h1 ⊢
 have w4:(sF 4 x y).wt<2^39:=by simp only [sF,RO.wt,td,RP.nodes,sJ];omega
 have w3:(sF 3 x y).wt<2^39:=by simp only [sF,RO.wt,td,RP.nodes,sJ];omega
 have n4:tX (sF 4 x y):=⟨⟨by decide,trivial⟩,by decide,hx2,hy2,trivial⟩
 have n3:tX (sF 3 x y):=⟨⟨by decide,trivial⟩,by decide,hx2,hy2,trivial⟩
 have a1:=vt L hok x (by omega) hx2
 have a2:=vt L hok y (by omega) hy2
 have a3:=zR x y
 have a4:=Bz x y
 have a5:=vt L hok (sF 4 x y) (by omega) n4
 have a6:=vt L hok (sF 3 x y) (by omega) n3
 rw [← Bd] at a6
 have a7:=t89 _ (sF 4 x y) (Nat.le_refl _) (by omega)
 have T1:sY L x=2→sY L (sF 4 x y)=2:=fun h=>zJ (Or.inl h)
 have T2:sY L y=2→sY L (sF 4 x y)=2:=fun h=>zJ (Or.inr h)
 have T3:(sF 4 x y).size>200∨(sF 4 x y).deep>20→sY L (sF 4 x y)=2:=Ef
 have T4:(sF 4 x y).size≤200→(sF 4 x y).deep≤20→(sY L (sF 4 x y)=0↔sY L x=0∧sY L y=0):=HL
 have k1:=fun h=>xY _ x (Nat.le_refl _) (vG (l:=L) h)
 have k2:=fun h=>xY _ y (Nat.le_refl _) (vG (l:=L) h)
 have k3:=fun h=>xY _ (sF 4 x y) (Nat.le_refl _) (vG (l:=L) h)
 have k4:=fun h=>xY _ (sF 3 x y) (Nat.le_refl _) (vG (l:=L) (r:=sF 3 x y) (by rw [← Bd];exact h))
 rw [Em] at k3
 rw [BR] at k4
 have lx:=xo x
 have ly:=xo y
 have r1:=w8 x (by omega)
 have r2:=w8 y (by omega)
 have r3:=w8 (sF 4 x y) (by omega)
 have r4:=w8 (sF 3 x y) (by omega)
 have r5:=Al (reads x) (reads y) (by have:=xQ x;omega) (by have:=xQ y;omega)
 rw [← xR (Or.inr rfl)] at r3
 rw [← xR (Or.inl rfl)] at r4
 have r6:=zc ((reads x++reads y).foldl tl []) (by rw [xR (k:=4) (Or.inr rfl)];have:=xQ (sF 4 x y);omega)
 have u1:=wv x (by omega)
 have u2:=wv y (by omega)
 have u3:=wv (sF 4 x y) (by omega)
 have u4:=wv (sF 3 x y) (by omega)
 have u5:=Al (writes x) (writes y) (by have:=xD x;omega) (by have:=xD y;omega)
 rw [← xE (Or.inr rfl)] at u3
 rw [← xE (Or.inl rfl)] at u4
 have u6:=zc ((writes x++writes y).foldl tl []) (by rw [xE (k:=4) (Or.inr rfl)];have:=xD (sF 4 x y);omega)
 have l4:=sE (sF 4 x y)
 have l3:=sE (sF 3 x y)
 clear hfd hok ck hx1 hx2 hy1 hy2 w4 w3 n4 n3 hl hn hc
 generalize (reads x++reads y).foldl tl []=rd at *
 generalize (writes x++writes y).foldl tl []=wr at *
 generalize reads x=rx at *
 generalize reads y=ry at *
 generalize writes x=wx at *
 generalize writes y=wy at *
 generalize sY L (sF 4 x y)=g at *
 generalize sY L x=e at *
 generalize sY L y=f at *
 generalize (sF 4 x y).size=sz4 at *
 generalize (sF 4 x y).deep=dp4 at *
 generalize tf x=m at *
 generalize tf y=n at *
 generalize B0 x=b1 at *
 generalize B0 y=b2 at *
 generalize sA (sF 4 x y)=ca at *
 generalize sA (sF 3 x y)=cb at *
 generalize sA x=cx at *
 generalize sA y=cy at *
 generalize MM.fds L=FL at *
 cases b1
 ·repeat' ((conv=>whnf);first|exact trivial|refine rE _ (h0) ?_|refine rE _ (h1) ?_|refine rE _ (f1) ?_|refine aN0 ?_|refine rb1 ?_|(refine And.intro (by first|exact hxl|exact hyl|fail) ?_)|refine aS ?_|fail)
 cases b2
 ·repeat' ((conv=>whnf);first|exact trivial|refine rE _ (h0) ?_|refine rE _ (h1) ?_|refine rE _ (f1) ?_|refine rE _ (f2) ?_|refine aN0 ?_|refine rb1 ?_|(refine And.intro (by first|exact hxl|exact hyl|fail) ?_)|refine aS ?_|fail)
 repeat' ((conv=>whnf);first|refine rE _ (h0) ?_|refine rE _ (h1) ?_|refine rE _ (f1) ?_|refine rE _ (f2) ?_|refine rE _ (a1) ?_|refine rE _ (a2) ?_|refine rE _ (a3) ?_|refine aN0 ?_|(refine And.intro (by first|exact hxl|exact hyl|exact ⟨hxl,trivial⟩|fail) ?_)|refine aS ?_|fail)
 refine rA (β:=Unit) (fun _=>{sl:=[(0,.t FL),(4,.ptr 4 0),(5,.ptr 5 0),(7,.t (.bool true)),(8,.t (I e)),(9,.t (I f)),(10,.ptr 10 0),(11,.ptr 11 0)],bx:=[(4,.d 9 cx),(5,.d 9 cy),(10,.d 9 ca),(11,.d 9 cb)]}) (fun _=>True) ?_ ?_
 ·repeat' ((conv=>whnf);first|refine rE _ (a4) ?_|(exact ⟨(),trivial,by (repeat' (first|(exact su (mU (n:=9) rfl).symm)|exact trivial|exact LeV.same _|exact LeB.same _|exact rfl|exact fun _ _ _=>trivial|refine And.intro ?_ ?_));done⟩)|(refine And.intro (by first|exact l4|exact l3|exact ⟨l4,Nat.le_refl _⟩|exact ⟨l3,Nat.le_refl _⟩|fail) ?_)|fail)
 rintro _ _
 repeat' ((conv=>whnf);first|refine rE _ (a5) ?_|fail)
 refine rA (β:=Unit) (fun _=>{sl:=[(0,.t FL),(4,.ptr 4 0),(5,.ptr 5 0),(7,.t (.bool true)),(8,.t (I e)),(9,.t (I f)),(10,.ptr 10 0),(11,.ptr 11 0),(12,.t (I g)),(68,.t (.bool false))],bx:=[(4,.d 9 cx),(5,.d 9 cy),(10,.d 9 ca),(11,.d 9 cb)]}) (fun _=>True) ?_ ?_
 ·by_cases he:e=2
  ·have hg:=T1 he
   by_cases hf:f=2
   ·repeat' ((conv=>whnf);first|refine rE _ (a6) ?_|refine qy rfl ?_|refine qx he ?_|refine qy hg ?_|refine qx hf ?_|(exact ⟨(),trivial,by (repeat' (first|exact trivial|exact LeV.same _|exact LeB.same _|exact rfl|exact fun _ _ _=>trivial|refine And.intro ?_ ?_));done⟩)|refine aS ?_|fail)
   ·repeat' ((conv=>whnf);first|refine rE _ (a6) ?_|refine qy rfl ?_|refine qx he ?_|refine qy hg ?_|refine qw hf ?_|(exact ⟨(),trivial,by (repeat' (first|exact trivial|exact LeV.same _|exact LeB.same _|exact rfl|exact fun _ _ _=>trivial|refine And.intro ?_ ?_));done⟩)|refine aS ?_|fail)
  ·by_cases hf:f=2
   ·have hg:=T2 hf
    repeat' ((conv=>whnf);first|refine rE _ (a6) ?_|refine qy rfl ?_|refine qw he ?_|refine qy hg ?_|refine qx hf ?_|(exact ⟨(),trivial,by (repeat' (first|exact trivial|exact LeV.same _|exact LeB.same _|exact rfl|exact fun _ _ _=>trivial|refine And.intro ?_ ?_));done⟩)|refine aS ?_|fail)
   ·repeat' ((conv=>whnf);first|refine rE _ (a6) ?_|refine qy rfl ?_|refine qw he ?_|refine qw hf ?_|(exact ⟨(),trivial,by (repeat' (first|exact trivial|exact LeV.same _|exact LeB.same _|exact rfl|exact fun _ _ _=>trivial|refine And.intro ?_ ?_));done⟩)|refine aS ?_|fail)
 rintro _ _
 clear T1 T2 f1 f2 a1 a2 a3 a4 a5 a6 h1
 repeat' ((conv=>whnf);first|refine rE _ (a7) ?_|refine aS ?_|fail)
 by_cases hbig:sz4>200∨dp4>20
 ·have hg:=T3 hbig
  refine rA (β:=Unit) (fun _=>{sl:=[(7,.t (.bool true)),(12,.t (I g)),(78,.t (.bool true))],bx:=[]}) (fun _=>True) ?_ ?_
  ·by_cases q1:(sz4:Int)>200
   ·repeat' ((conv=>whnf);first|refine qv q1 ?_|(exact ⟨(),trivial,by (repeat' (first|exact trivial|exact LeV.same _|exact rfl|exact fun _ _ _=>trivial|refine And.intro ?_ ?_));done⟩)|refine nT_ ?_|refine aS ?_|fail)
   ·have q2:(dp4:Int)>20:=by omega
    repeat' ((conv=>whnf);first|refine qu q1 ?_|refine qv q2 ?_|(exact ⟨(),trivial,by (repeat' (first|exact trivial|exact LeV.same _|exact rfl|exact fun _ _ _=>trivial|refine And.intro ?_ ?_));done⟩)|refine nT_ ?_|refine aS ?_|fail)
  rintro _ _
  repeat' ((conv=>whnf);first|exact trivial|refine qx hg ?_|refine rb1 ?_|refine aS ?_|fail)
 have q1: ¬(sz4:Int)>200:=by omega
 have q2: ¬(dp4:Int)>20:=by omega
 have T4:=T4 (by omega) (by omega)
 refine rA (β:=Unit) (fun _=>{sl:=[(0,.t FL),(4,.ptr 4 0),(5,.ptr 5 0),(7,.t (.bool true)),(8,.t (I e)),(9,.t (I f)),(10,.ptr 10 0),(11,.ptr 11 0),(12,.t (I g)),(78,.t (.bool false))],bx:=[(4,.d 9 cx),(5,.d 9 cy),(10,.d 9 ca),(11,.d 9 cb)]}) (fun _=>True) ?_ ?_
 ·repeat' ((conv=>whnf);first|refine qu q1 ?_|refine qu q2 ?_|(exact ⟨(),trivial,by (repeat' (first|exact trivial|exact LeV.same _|exact LeB.same _|exact rfl|exact fun _ _ _=>trivial|refine And.intro ?_ ?_));done⟩)|refine nT_ ?_|refine aS ?_|fail)
 rintro _ _
 skip
 refine rA (β:=Unit) (fun _=>{sl:=[(0,.t FL),(4,.ptr 4 0),(5,.ptr 5 0),(7,.t (.bool true)),(10,.ptr 10 0),(11,.ptr 11 0),(12,.t (I g)),(92,.t (.bool false))],bx:=[(4,.d 9 cx),(5,.d 9 cy),(10,.d 9 ca),(11,.d 9 cb)]}) (fun _=>True) ?_ ?_
 ·by_cases hg:g=0
  ·obtain ⟨he,hf⟩:=T4.1 hg
   repeat' ((conv=>whnf);first|refine qx hg ?_|refine qx he ?_|refine qx hf ?_|refine nb_ false rfl ?_|(exact ⟨(),trivial,by (repeat' (first|exact trivial|exact LeV.same _|exact LeB.same _|exact rfl|exact fun _ _ _=>trivial|refine And.intro ?_ ?_));done⟩)|refine aS ?_|fail)
  ·by_cases he:e=0
   ·have hf:f≠0:=fun hf=>hg (T4.2 ⟨he,hf⟩)
    repeat' ((conv=>whnf);first|refine qw hg ?_|refine qx he ?_|refine qw hf ?_|refine nb_ false rfl ?_|(exact ⟨(),trivial,by (repeat' (first|exact trivial|exact LeV.same _|exact LeB.same _|exact rfl|exact fun _ _ _=>trivial|refine And.intro ?_ ?_));done⟩)|refine aS ?_|fail)
   ·repeat' ((conv=>whnf);first|refine qw hg ?_|refine qw he ?_|refine nb_ false rfl ?_|(exact ⟨(),trivial,by (repeat' (first|exact trivial|exact LeV.same _|exact LeB.same _|exact rfl|exact fun _ _ _=>trivial|refine And.intro ?_ ?_));done⟩)|refine aS ?_|fail)
 rintro _ _
 by_cases hg:g=0
 case neg=>repeat' ((conv=>whnf);first|exact trivial|refine qz hg ?_|refine rb1 ?_|refine aS ?_|fail)
 obtain ⟨he,hf⟩:=T4.1 hg
 have k1:=k1 he
 have k2:=k2 hf
 have k3:=k3 hg
 have k4:=k4 hg
 clear T3 T4
 repeat' ((conv=>whnf);first|refine qy hg ?_|refine rE _ (k1) ?_|refine aS ?_|fail)
 refine rA (β:=Unit) (fun _=>{sl:=[(4,.ptr 4 0),(5,.ptr 5 0),(7,.t (.bool true)),(10,.ptr 10 0),(11,.ptr 11 0),(14,.t (I m)),(15,.t (I n))],bx:=[(4,.d 9 cx),(5,.d 9 cy),(10,.d 9 ca),(11,.d 9 cb)]}) (fun _=>True) ?_ ?_
 ·repeat' ((conv=>whnf);first|refine rE _ (k2) ?_|(exact ⟨(),trivial,by (repeat' (first|exact trivial|exact LeV.same _|exact LeB.same _|exact rfl|exact fun _ _ _=>trivial|refine And.intro ?_ ?_));done⟩)|fail)
 rintro _ _
 repeat' ((conv=>whnf);first|refine rE _ (r1) ?_|refine rE _ (r2) ?_|refine rE _ (r5) ?_|fail)
 refine rA (β:=Unit) (fun _=>{sl:=[(7,.t (.bool true)),(10,.ptr 10 0),(11,.ptr 11 0),(14,.t (I m)),(15,.t (I n)),(16,.t (.slice 1 (rd.map .str))),(17,.t (.slice 1 (wr.map .str)))],bx:=[(10,.d 9 ca),(11,.d 9 cb)]}) (fun _=>True) ?_ ?_
 ·repeat' ((conv=>whnf);first|refine rE _ (u1) ?_|refine rE _ (u2) ?_|refine rE _ (u5) ?_|(exact ⟨(),trivial,by (repeat' (first|exact trivial|exact LeV.same _|exact LeB.same _|exact rfl|exact fun _ _ _=>trivial|refine And.intro ?_ ?_));done⟩)|fail)
 rintro _ _
 skip
 refine rA (β:=Unit) (fun _=>{sl:=[(7,.t (.bool true)),(10,.ptr 10 0),(11,.ptr 11 0),(14,.t (I m)),(15,.t (I n)),(135,.t (.bool false))],bx:=[(10,.d 9 ca),(11,.d 9 cb)]}) (fun _=>True) ?_ ?_
 ·repeat' ((conv=>whnf);first|refine rE _ (r3) ?_|refine rE _ (r4) ?_|refine rE _ (r6) ?_|refine rE _ (u3) ?_|refine rE _ (u4) ?_|refine rE _ (u6) ?_|(exact ⟨(),trivial,by (repeat' (first|exact trivial|exact LeV.same _|exact LeB.same _|exact rfl|exact fun _ _ _=>trivial|refine And.intro ?_ ?_));done⟩)|fail)
 rintro _ _
 have hm:=Nat.mul_le_mul lx ly
 have hp:((m * n:Nat):Int)=(m:Int) * (n:Int):=Int.natCast_mul _ _
 generalize m * n=pr at *
 have z1:((min pr 65536:Nat):Int)=(if (65536:Int)<IntKind.i64.wrap ((m:Int) * (n:Int)) then (65536:Int) else IntKind.i64.wrap ((m:Int) * (n:Int))):=by
  rw [← hp,mG (by omega) (by omega)];split <;> omega
 have z2:((min (m+n) 65536:Nat):Int)=(if (65536:Int)<IntKind.i64.wrap ((m:Int)+(n:Int)) then (65536:Int) else IntKind.i64.wrap ((m:Int)+(n:Int))):=by
  rw [mG (by omega) (by omega)];split <;> omega
 repeat' ((conv=>whnf);first|exact trivial|refine rE _ (k3) ?_|refine rE _ (k4) ?_|refine qx z1 ?_|refine qx z2 ?_|refine rb1 ?_|refine aS ?_|fail)
end Go.TY
end
