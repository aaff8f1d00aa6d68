/- Joined by program: parts of a data level over the model, of the program's functions over it, and of the statement's proof. -/
import Derived.Test.YtdfkadeceaepeaaGreatGd
import Derived.Test.YtdfkadeceaepeaaGreatGc
import Derived.Test.YtdfkadeceaepeaaGreatProg
import Derived.KernelRfl
import Derived.Sort.Walk0
import Derived.Shelf.Sort.Plain
import Derived.Shelf.Slices.In.SortNone
set_option maxRecDepth 100000
set_option maxHeartbeats 8000000
section
namespace Go.MM
open Go Go.DL Go.Proofs
def va (l:List Fd):RP→Int
 |.mk k f n m _=>if k=3∨k=4∨k=5 then (match findF l f with
   |none=>4
   |some F=>if (if k=5 then m else n)>((2^F.w - 1:Nat):Int)∨(k=4∧m>F.w) then 1 else 0) else 0
theorem Bj {l:List Fd} (hl:LOk l) {s:ByteArray} {F:Fd} (h:findF l s=some F):F.w≤16:=by
 have:=(hl.find h).w2;omega
theorem t92 (l:List Fd) (hl:LOk l) (r:RP):DCalls Tryz.prog 89 [fds l,.agg (sj r)] (I (va l r)):=by
 obtain ⟨k,f,n,m,a⟩:=r
 refine qB (rs:=[.tmp 4]) mixed Tryz.func89 l89 rfl rfl rfl (r:=[.int _ _]) (nlZ rfl) ?_
 have h51:=t51 l f hl.len
 simp only [va]
 by_cases hk:k=3∨k=4∨k=5
 ·rw [if_pos hk]
  unfold uR at h51
  cases hF:findF l f with
  |none=>
   rw [hF] at h51
   simp only at h51 ⊢
   rcases hk with rfl|rfl|rfl <;> repeat' ((conv=>whnf);first|exact trivial|refine rq _ (h51) ?_|refine nT_ ?_|refine aE1 ?_|refine aE0 ?_|refine aN1 ?_|refine aN0 ?_|refine aD1 ?_|refine aD0 ?_|refine nE_ (fun hq=>?_) (fun hq=>?_)|refine nN_ (fun hq=>?_) (fun hq=>?_)|refine nD_ (fun hq=>?_) (fun hq=>?_)|refine rb1 ?_|refine rb0 ?_|refine rbx ?_|refine rix ?_|refine aS ?_|fail)
  |some F=>
   rw [hF] at h51
   simp only at h51 ⊢
   have hw:=Bj hl hF
   have h66:=t66 F (hl.find hF)
   obtain ⟨s,fa,w⟩:=F
   simp only at hw h66 ⊢
   generalize hM:((2^w - 1:Nat):Int)=M at *
   rcases hk with rfl|rfl|rfl
   ·by_cases c:n>M
    ·rw [if_pos (by simp;omega)];repeat' ((conv=>whnf);first|exact trivial|refine rq _ (h51) ?_|refine rq _ (h66) ?_|refine nT_ ?_|refine aE1 ?_|refine aE0 ?_|refine aN1 ?_|refine aN0 ?_|refine aD1 ?_|refine aD0 ?_|refine nE_ (fun hq=>?_) (fun hq=>?_)|refine nN_ (fun hq=>?_) (fun hq=>?_)|refine nD_ (fun hq=>?_) (fun hq=>?_)|refine rb1 ?_|refine rb0 ?_|refine rbx ?_|refine rix ?_|refine aS ?_|fail)
    ·rw [if_neg (by simp;omega)];repeat' ((conv=>whnf);first|exact trivial|refine rq _ (h51) ?_|refine rq _ (h66) ?_|refine nT_ ?_|refine aE1 ?_|refine aE0 ?_|refine aN1 ?_|refine aN0 ?_|refine aD1 ?_|refine aD0 ?_|refine nE_ (fun hq=>?_) (fun hq=>?_)|refine nN_ (fun hq=>?_) (fun hq=>?_)|refine nD_ (fun hq=>?_) (fun hq=>?_)|refine rb1 ?_|refine rb0 ?_|refine rbx ?_|refine rix ?_|refine aS ?_|fail)
   ·by_cases c:n>M
    ·rw [if_pos (by simp;omega)];repeat' ((conv=>whnf);first|exact trivial|refine rq _ (h51) ?_|refine rq _ (h66) ?_|refine nT_ ?_|refine aE1 ?_|refine aE0 ?_|refine aN1 ?_|refine aN0 ?_|refine aD1 ?_|refine aD0 ?_|refine nE_ (fun hq=>?_) (fun hq=>?_)|refine nN_ (fun hq=>?_) (fun hq=>?_)|refine nD_ (fun hq=>?_) (fun hq=>?_)|refine rb1 ?_|refine rb0 ?_|refine rbx ?_|refine rix ?_|refine aS ?_|fail)
    ·by_cases d:m>(w:Int)
     ·rw [if_pos (by simp;omega)];repeat' ((conv=>whnf);first|exact trivial|refine rq _ (h51) ?_|refine rq _ (h66) ?_|refine nT_ ?_|refine aE1 ?_|refine aE0 ?_|refine aN1 ?_|refine aN0 ?_|refine aD1 ?_|refine aD0 ?_|refine nE_ (fun hq=>?_) (fun hq=>?_)|refine nN_ (fun hq=>?_) (fun hq=>?_)|refine nD_ (fun hq=>?_) (fun hq=>?_)|refine rb1 ?_|refine rb0 ?_|refine rbx ?_|refine rix ?_|refine aS ?_|fail)
     ·rw [if_neg (by simp;omega)];repeat' ((conv=>whnf);first|exact trivial|refine rq _ (h51) ?_|refine rq _ (h66) ?_|refine nT_ ?_|refine aE1 ?_|refine aE0 ?_|refine aN1 ?_|refine aN0 ?_|refine aD1 ?_|refine aD0 ?_|refine nE_ (fun hq=>?_) (fun hq=>?_)|refine nN_ (fun hq=>?_) (fun hq=>?_)|refine nD_ (fun hq=>?_) (fun hq=>?_)|refine rb1 ?_|refine rb0 ?_|refine rbx ?_|refine rix ?_|refine aS ?_|fail)
   ·by_cases c:m>M
    ·rw [if_pos (by simp;omega)];repeat' ((conv=>whnf);first|exact trivial|refine rq _ (h51) ?_|refine rq _ (h66) ?_|refine nT_ ?_|refine aE1 ?_|refine aE0 ?_|refine aN1 ?_|refine aN0 ?_|refine aD1 ?_|refine aD0 ?_|refine nE_ (fun hq=>?_) (fun hq=>?_)|refine nN_ (fun hq=>?_) (fun hq=>?_)|refine nD_ (fun hq=>?_) (fun hq=>?_)|refine rb1 ?_|refine rb0 ?_|refine rbx ?_|refine rix ?_|refine aS ?_|fail)
    ·rw [if_neg (by simp;omega)];repeat' ((conv=>whnf);first|exact trivial|refine rq _ (h51) ?_|refine rq _ (h66) ?_|refine nT_ ?_|refine aE1 ?_|refine aE0 ?_|refine aN1 ?_|refine aN0 ?_|refine aD1 ?_|refine aD0 ?_|refine nE_ (fun hq=>?_) (fun hq=>?_)|refine nN_ (fun hq=>?_) (fun hq=>?_)|refine nD_ (fun hq=>?_) (fun hq=>?_)|refine rb1 ?_|refine rb0 ?_|refine rbx ?_|refine rix ?_|refine aS ?_|fail)
 ·rw [if_neg hk]
  have h3:k≠3:=fun h=>hk (.inl h)
  have h4:k≠4:=fun h=>hk (.inr (.inl h))
  have h5:k≠5:=fun h=>hk (.inr (.inr h))
  repeat' ((conv=>whnf);first|exact trivial|refine nT_ ?_|refine aE1 ?_|refine aE0 ?_|refine aN1 ?_|refine aN0 ?_|refine aD1 ?_|refine aD0 ?_|refine nE_ (fun hq=>?_) (fun hq=>?_)|refine nN_ (fun hq=>?_) (fun hq=>?_)|refine nD_ (fun hq=>?_) (fun hq=>?_)|refine rb1 ?_|refine rb0 ?_|refine rbx ?_|refine rix ?_|refine aS ?_|fail)
def fitAll (l:List Fd) (r:RP):Int:=tB ((sJ r).map (va l))
theorem t65 (l:List Fd) (hl:LOk l) (r:RP) (hr:r.nodes<2^40):DCalls Tryz.prog 69 [fds l,.agg (sj r)] (I (fitAll l r)):=by
 refine qB (rs:=[.tmp 4]) mixed Tryz.func69 l69 rfl rfl rfl (r:=[.int _ _]) (nlZ rfl) ?_
 have h91:=t91 _ r (Nat.le_refl _) hr
 have hlen:=uY r
 unfold fitAll
 generalize sJ r=ps at *
 repeat' ((conv=>whnf);first|exact trivial|refine rq _ (h91) ?_|refine nT_ ?_|refine aE1 ?_|refine aE0 ?_|refine aN1 ?_|refine aN0 ?_|refine aD1 ?_|refine aD0 ?_|refine nE_ (fun hq=>?_) (fun hq=>?_)|refine nN_ (fun hq=>?_) (fun hq=>?_)|refine nD_ (fun hq=>?_) (fun hq=>?_)|refine rb1 ?_|refine rb0 ?_|refine rbx ?_|refine rix ?_|(refine And.intro (by first|exact sQ _|fail) ?_)|refine aS ?_|fail)
 refine qX (α:=Nat) (fun i=>{sl:=[(0,.t (fds l)),(5,.t (.slice 5 (ps.map sR))),(6,.t (I i))],bx:=[]})
  (fun i=>i≤ps.length∧ ∀j (h:j<ps.length),j<i→va l ps[j]=0) (fun i=>ps.length - i) 0 (by simp) ?_ ?_
 ·repeat' (first|exact trivial|exact LeV.same _|exact LeB.same _|exact rfl|exact fun _ _ _=>trivial|exact lI|exact LeV.nil _ _ _|exact lB|refine r9 ?_|refine rO ?_|refine And.intro ?_ ?_)
 rintro i ⟨hi,hp⟩
 rcases Nat.lt_or_ge i ps.length with h|h
 ·have h92:=t92 l hl ps[i]
  by_cases h0:va l ps[i]=0
  ·rw [h0] at h92
   repeat' ((conv=>whnf);first|exact trivial|(refine nv_ (.agg (sj ps[i])) (by first|(simp [h,sD];done)|fail) ?_)|refine rq _ (h92) ?_|refine nT_ ?_|refine aE1 ?_|refine aE0 ?_|refine aN1 ?_|refine aN0 ?_|refine aD1 ?_|refine aD0 ?_|refine nE_ (fun hq=>?_) (fun hq=>?_)|refine nN_ (fun hq=>?_) (fun hq=>?_)|refine nD_ (fun hq=>?_) (fun hq=>?_)|refine rb1 ?_|refine rb0 ?_|refine rbx ?_|refine rix ?_|(refine And.intro (by first|exact sQ _|fail) ?_)|refine aS ?_|fail)
   refine ⟨i+1,⟨h,fun j hj hlt=>?_⟩,by omega,?_⟩
   ·rcases Nat.lt_or_ge j i with h4|h4
    ·exact hp j hj h4
    ·obtain rfl:j=i:=by omega
     exact h0
   ·repeat' (first|exact trivial|exact LeV.same _|exact LeB.same _|exact rfl|exact fun _ _ _=>trivial|exact lI|exact LeV.nil _ _ _|exact lB|refine r9 ?_|refine rO ?_|refine And.intro ?_ ?_)
  ·have e:tB (ps.map (va l))=va l ps[i]:=by
    have:=vA (l:=ps.map (va l)) (i:=i) (by simpa using h) (fun j hj hlt=>by simpa using hp j (by simpa using hj) hlt) (by simpa using h0)
    simpa using this
   rw [e]
   generalize va l ps[i]=e at *
   repeat' ((conv=>whnf);first|exact trivial|(refine nv_ (.agg (sj ps[i])) (by first|(simp [h,sD];done)|fail) ?_)|refine rq _ (h92) ?_|refine nT_ ?_|refine aE1 ?_|refine aE0 ?_|refine aN1 ?_|refine aN0 ?_|refine aD1 ?_|refine aD0 ?_|refine nE_ (fun hq=>?_) (fun hq=>?_)|refine nN_ (fun hq=>?_) (fun hq=>?_)|refine nD_ (fun hq=>?_) (fun hq=>?_)|refine rb1 ?_|refine rb0 ?_|refine rbx ?_|refine rix ?_|(refine And.intro (by first|exact sQ _|fail) ?_)|refine aS ?_|fail)
 ·rw [vR fun j hj=>by simpa using hp j (by simpa using hj) (by simp at hj;omega)]
  repeat' ((conv=>whnf);first|exact trivial|refine nT_ ?_|refine aE1 ?_|refine aE0 ?_|refine aN1 ?_|refine aN0 ?_|refine aD1 ?_|refine aD0 ?_|refine nE_ (fun hq=>?_) (fun hq=>?_)|refine nN_ (fun hq=>?_) (fun hq=>?_)|refine nD_ (fun hq=>?_) (fun hq=>?_)|refine rb1 ?_|refine rb0 ?_|refine rbx ?_|refine rix ?_|refine aS ?_|fail)
def uh (l:List Fd):RO→Int
 |.mk k p f n _=>if k=1 then fitAll l p else if k=2 then (match findF l f with
   |none=>4
   |some F=>if n>((2^F.w - 1:Nat):Int) then 1 else 0) else 0
def xf (l:List Fd) (r:RO):Int:=if uz r≠0 then uz r else tB ((sE r).map (uh l))
mutual
theorem vT: ∀r:RO, ∀x∈sE r,x.wt≤r.wt
 |.mk k p f n a=>fun x hx=>by
  simp only [sE,List.mem_cons] at hx
  rcases hx with rfl|hx
  ·exact Nat.le_refl _
  ·have:=yg a x hx;simp only [RO.wt];omega
theorem yg: ∀l:List RO, ∀x∈sH l,x.wt≤s9 l
 |[]=>fun x hx=>by simp [sH] at hx
 |r::rs=>fun x hx=>by
  simp only [sH,List.mem_append] at hx
  simp only [s9]
  rcases hx with hx|hx
  ·have:=vT r x hx;omega
  ·have:=yg rs x hx;omega
end
theorem t40 (l:List Fd) (hl:LOk l) (r:RO) (hr:r.wt<2^40) (hn:uU r):DCalls Tryz.prog 38 [fds l,.agg (sg r)] (I (xf l r)):=by
 refine qB (rs:=[.tmp 4]) mixed Tryz.func38 l38 rfl rfl rfl (r:=[.int _ _]) (nlZ rfl) ?_
 have h63:=t63 r (by omega) hn
 have h64:=t64 _ r (Nat.le_refl _) hr
 have hlen:=uw r
 have hw:=vT r
 have hcl:=r.vK
 unfold xf
 generalize sE r=ps at *
 by_cases hc:uz r≠0
 ·rw [if_pos hc]
  generalize uz r=e at *
  repeat' ((conv=>whnf);first|exact trivial|refine rq _ (h63) ?_|refine nT_ ?_|refine aE1 ?_|refine aE0 ?_|refine aN1 ?_|refine aN0 ?_|refine aD1 ?_|refine aD0 ?_|refine nE_ (fun hq=>?_) (fun hq=>?_)|refine nN_ (fun hq=>?_) (fun hq=>?_)|refine nD_ (fun hq=>?_) (fun hq=>?_)|refine rb1 ?_|refine rb0 ?_|refine rbx ?_|refine rix ?_|(refine And.intro (by first|exact sm _|fail) ?_)|refine aS ?_|fail)
 rw [if_neg hc]
 have hc:uz r=0:=Decidable.not_not.1 hc
 rw [hc] at h63
 repeat' ((conv=>whnf);first|exact trivial|refine rq _ (h63) ?_|refine rq _ (h64) ?_|refine nT_ ?_|refine aE1 ?_|refine aE0 ?_|refine aN1 ?_|refine aN0 ?_|refine aD1 ?_|refine aD0 ?_|refine nE_ (fun hq=>?_) (fun hq=>?_)|refine nN_ (fun hq=>?_) (fun hq=>?_)|refine nD_ (fun hq=>?_) (fun hq=>?_)|refine rb1 ?_|refine rb0 ?_|refine rbx ?_|refine rix ?_|(refine And.intro (by first|exact sm _|fail) ?_)|refine aS ?_|fail)
 refine qX (α:=Nat) (fun i=>{sl:=[(0,.t (fds l)),(5,.t (I 0)),(6,.t (.slice 9 (ps.map tQ))),(7,.t (I i))],bx:=[]})
  (fun i=>i≤ps.length∧ ∀j (h:j<ps.length),j<i→uh l ps[j]=0) (fun i=>ps.length - i) 0 (by simp) ?_ ?_
 ·repeat' (first|exact trivial|exact LeV.same _|exact LeB.same _|exact rfl|exact fun _ _ _=>trivial|exact lI|exact LeV.nil _ _ _|exact lB|refine r9 ?_|refine rO ?_|refine And.intro ?_ ?_)
 rintro i ⟨hi,hp⟩
 rcases Nat.lt_or_ge i ps.length with h|h
 ·have res: ∀e,uh l ps[i]=e→e≠0→tB (ps.map (uh l))=e:=fun e he h0=>by
   have:=vA (l:=ps.map (uh l)) (i:=i) (by simpa using h) (fun j hj hlt=>by simpa using hp j (by simpa using hj) hlt) (by simpa [he] using h0)
   rw [this];simpa using he
  have next:uh l ps[i]=0→i+1≤ps.length∧ ∀j (h:j<ps.length),j<i+1→uh l ps[j]=0:=fun h0=>by
   refine ⟨h,fun j hj hlt=>?_⟩
   rcases Nat.lt_or_ge j i with h4|h4
   ·exact hp j hj h4
   ·obtain rfl:j=i:=by omega
    exact h0
  have hwi:=hw _ (List.getElem_mem h)
  have hg:(ps.map tQ)[i]?.getD .nil= .agg (sg ps[i]):=by simp [h,sM]
  generalize ps[i]=x at *
  obtain ⟨k,⟨pk,pf,pn,pm,pa⟩,f,n,a⟩:=x
  have h51:=t51 l f hl.len
  by_cases hk1:k=1
  ·subst hk1
   have h65:=t65 l hl (.mk pk pf pn pm pa) (by simp only [RO.wt] at hwi;omega)
   have ef:uh l (.mk 1 (.mk pk pf pn pm pa) f n a)=fitAll l (.mk pk pf pn pm pa):=by simp [uh]
   rw [ef] at res next
   generalize fitAll l (.mk pk pf pn pm pa)=e at *
   by_cases h0:e=0
   ·subst h0
    repeat' ((conv=>whnf);first|exact trivial|(refine nv_ (.agg (sg (.mk 1 (.mk pk pf pn pm pa) f n a))) (by first|exact hg|fail) ?_)|refine rq _ (h65) ?_|(exact ⟨i+1,next rfl,by omega,by (repeat' (first|exact trivial|exact LeV.same _|exact LeB.same _|exact rfl|exact fun _ _ _=>trivial|exact lI|exact LeV.nil _ _ _|exact lB|refine r9 ?_|refine rO ?_|refine And.intro ?_ ?_));done⟩)|refine nT_ ?_|refine aE1 ?_|refine aE0 ?_|refine aN1 ?_|refine aN0 ?_|refine aD1 ?_|refine aD0 ?_|refine nE_ (fun hq=>?_) (fun hq=>?_)|refine nN_ (fun hq=>?_) (fun hq=>?_)|refine nD_ (fun hq=>?_) (fun hq=>?_)|refine rb1 ?_|refine rb0 ?_|refine rbx ?_|refine rix ?_|refine aS ?_|fail)
   ·rw [res e rfl h0]
    repeat' ((conv=>whnf);first|exact trivial|(refine nv_ (.agg (sg (.mk 1 (.mk pk pf pn pm pa) f n a))) (by first|exact hg|fail) ?_)|refine rq _ (h65) ?_|refine nT_ ?_|refine aE1 ?_|refine aE0 ?_|refine aN1 ?_|refine aN0 ?_|refine aD1 ?_|refine aD0 ?_|refine nE_ (fun hq=>?_) (fun hq=>?_)|refine nN_ (fun hq=>?_) (fun hq=>?_)|refine nD_ (fun hq=>?_) (fun hq=>?_)|refine rb1 ?_|refine rb0 ?_|refine rbx ?_|refine rix ?_|refine aS ?_|fail)
  ·by_cases hk2:k=2
   ·subst hk2
    unfold uR at h51
    cases hF:findF l f with
    |none=>
     rw [hF] at h51
     rw [res 4 (by simp [uh,hF]) (by decide)]
     simp only at h51
     repeat' ((conv=>whnf);first|exact trivial|(refine nv_ (.agg (sg (.mk 2 (.mk pk pf pn pm pa) f n a))) (by first|exact hg|fail) ?_)|refine rq _ (h51) ?_|refine nT_ ?_|refine aE1 ?_|refine aE0 ?_|refine aN1 ?_|refine aN0 ?_|refine aD1 ?_|refine aD0 ?_|refine nE_ (fun hq=>?_) (fun hq=>?_)|refine nN_ (fun hq=>?_) (fun hq=>?_)|refine nD_ (fun hq=>?_) (fun hq=>?_)|refine rb1 ?_|refine rb0 ?_|refine rbx ?_|refine rix ?_|refine aS ?_|fail)
    |some F=>
     rw [hF] at h51
     simp only at h51
     have h66:=t66 F (hl.find hF)
     by_cases hc:n>((2^F.w - 1:Nat):Int)
     ·rw [res 1 (by simp only [uh,hF];rw [if_neg (by decide),if_pos trivial,if_pos hc]) (by decide)]
      generalize ((2^F.w - 1:Nat):Int)=M at *
      repeat' ((conv=>whnf);first|exact trivial|(refine nv_ (.agg (sg (.mk 2 (.mk pk pf pn pm pa) f n a))) (by first|exact hg|fail) ?_)|refine rq _ (h51) ?_|refine rq _ (h66) ?_|refine nT_ ?_|refine aE1 ?_|refine aE0 ?_|refine aN1 ?_|refine aN0 ?_|refine aD1 ?_|refine aD0 ?_|refine nE_ (fun hq=>?_) (fun hq=>?_)|refine nN_ (fun hq=>?_) (fun hq=>?_)|refine nD_ (fun hq=>?_) (fun hq=>?_)|refine rb1 ?_|refine rb0 ?_|refine rbx ?_|refine rix ?_|refine aS ?_|fail)
     ·have next:=next (by simp only [uh,hF];rw [if_neg (by decide),if_pos trivial,if_neg hc])
      generalize ((2^F.w - 1:Nat):Int)=M at *
      repeat' ((conv=>whnf);first|exact trivial|(refine nv_ (.agg (sg (.mk 2 (.mk pk pf pn pm pa) f n a))) (by first|exact hg|fail) ?_)|refine rq _ (h51) ?_|refine rq _ (h66) ?_|(exact ⟨i+1,next,by omega,by (repeat' (first|exact trivial|exact LeV.same _|exact LeB.same _|exact rfl|exact fun _ _ _=>trivial|exact lI|exact LeV.nil _ _ _|exact lB|refine r9 ?_|refine rO ?_|refine And.intro ?_ ?_));done⟩)|refine nT_ ?_|refine aE1 ?_|refine aE0 ?_|refine aN1 ?_|refine aN0 ?_|refine aD1 ?_|refine aD0 ?_|refine nE_ (fun hq=>?_) (fun hq=>?_)|refine nN_ (fun hq=>?_) (fun hq=>?_)|refine nD_ (fun hq=>?_) (fun hq=>?_)|refine rb1 ?_|refine rb0 ?_|refine rbx ?_|refine rix ?_|refine aS ?_|fail)
   ·have next:=next (by simp only [uh];rw [if_neg hk1,if_neg hk2])
    repeat' ((conv=>whnf);first|exact trivial|(refine nv_ (.agg (sg (.mk k (.mk pk pf pn pm pa) f n a))) (by first|exact hg|fail) ?_)|(exact ⟨i+1,next,by omega,by (repeat' (first|exact trivial|exact LeV.same _|exact LeB.same _|exact rfl|exact fun _ _ _=>trivial|exact lI|exact LeV.nil _ _ _|exact lB|refine r9 ?_|refine rO ?_|refine And.intro ?_ ?_));done⟩)|refine nT_ ?_|refine aE1 ?_|refine aE0 ?_|refine aN1 ?_|refine aN0 ?_|refine aD1 ?_|refine aD0 ?_|refine nE_ (fun hq=>?_) (fun hq=>?_)|refine nN_ (fun hq=>?_) (fun hq=>?_)|refine nD_ (fun hq=>?_) (fun hq=>?_)|refine rb1 ?_|refine rb0 ?_|refine rbx ?_|refine rix ?_|refine aS ?_|fail)
 ·rw [vR fun j hj=>by simpa using hp j (by simpa using hj) (by simp at hj;omega)]
  repeat' ((conv=>whnf);first|exact trivial|refine nT_ ?_|refine aE1 ?_|refine aE0 ?_|refine aN1 ?_|refine aN0 ?_|refine aD1 ?_|refine aD0 ?_|refine nE_ (fun hq=>?_) (fun hq=>?_)|refine nN_ (fun hq=>?_) (fun hq=>?_)|refine nD_ (fun hq=>?_) (fun hq=>?_)|refine rb1 ?_|refine rb0 ?_|refine rbx ?_|refine rix ?_|refine aS ?_|fail)
def vt (l:List Fd) (r:RO):Bool:=(xf l r==0)&&decide (r.cnt≤40)&&decide (r.tN≤2)&&wW r.tN r.vO
theorem t48 (l:List Fd) (hl:LOk l) (r:RO) (hr:r.wt<2^40) (hn:uU r):DCalls Tryz.prog 15 [fds l,.agg (sg r)] (.bool (vt l r)):=by
 refine qB (rs:=[.tmp 4]) mixed Tryz.func15 l15 rfl rfl rfl (r:=[.bool _]) (nlZ rfl) ?_
 have h1:=t40 l hl r hr hn
 have h2:=t72 _ r (Nat.le_refl _) (by omega)
 have h3:=t59 _ r (Nat.le_refl _) (by omega)
 have h4:=t38 r (by omega)
 unfold vt
 generalize xf l r=e at *
 generalize wW r.tN r.vO=b at *
 generalize r.cnt=c at *
 generalize r.tN=s at *
 cases b <;> repeat' ((conv=>whnf);first|exact trivial|refine rq _ (h1) ?_|refine rq _ (h2) ?_|refine rq _ (h3) ?_|refine rq _ (h4) ?_|refine nT_ ?_|refine aE1 ?_|refine aE0 ?_|refine aN1 ?_|refine aN0 ?_|refine aD1 ?_|refine aD0 ?_|refine nE_ (fun hq=>?_) (fun hq=>?_)|refine nN_ (fun hq=>?_) (fun hq=>?_)|refine nD_ (fun hq=>?_) (fun hq=>?_)|refine rb1 ?_|refine rb0 ?_|refine rbx ?_|refine rix ?_|(refine And.intro (by first|exact sm _|fail) ?_)|refine aS ?_|fail)
def RF.fd (f:RF):Fd:=⟨f.name,f.a.toNat,f.w.toNat⟩
structure Checked (l:List RF):Prop where
 len:l.length≤16
 name: ∀f∈l,vh f.name=true
 port: ∀f∈l,sk f.name tM=false
 place: ∀f∈l,uB f=true
 uniq: ∀i j (hi:i<l.length) (hj:j<l.length),j<i→sk l[j].name l[i].name=false
 apart: ∀i j (hi:i<l.length) (hj:j<l.length),j<i→uq l[j] l[i]=false
theorem vg: ∀{l:List Int},tB l=0→ ∀x∈l,x=0
 |[],_,x,hx=>by cases hx
 |y::ys,h,x,hx=>by
  simp only [tB] at h
  split at h
  ·rename_i hy;exact absurd h hy
  ·rename_i hy
   rcases List.mem_cons.1 hx with rfl|hx
   ·exact Decidable.not_not.1 hy
   ·exact vg h x hx
theorem x7 {l:List RF} (h:uy l=0):Checked l:=by
 unfold uy at h
 split at h
 ·cases h
 rename_i hlen
 have hz: ∀i (hi:i<l.length),ti l i l[i]=0:=fun i hi=>vg h _ (List.mem_iff_getElem.2 ⟨i,by simpa using hi,by simp⟩)
 have key: ∀i (hi:i<l.length),(¬ (vh l[i].name=false∨sk l[i].name tM=true))∧(¬ ((l.take i).any fun g=>sk g.name l[i].name)=true)∧(¬ uB l[i]=false)∧ ¬((l.take i).any fun g=>uq g l[i])=true:=fun i hi=>by
  have:=hz i hi
  unfold ti at this
  split at this; ·cases this
  split at this; ·cases this
  split at this; ·cases this
  split at this; ·cases this
  rename_i h1 h2 h3 h4
  exact ⟨h1,h2,h3,h4⟩
 refine ⟨by omega,fun f hf=>?_,fun f hf=>?_,fun f hf=>?_,fun i j hi hj hji=>?_,fun i j hi hj hji=>?_⟩
 ·obtain ⟨i,hi,rfl⟩:=List.getElem_of_mem hf
  have:=(key i hi).1;simp at this;exact this.1
 ·obtain ⟨i,hi,rfl⟩:=List.getElem_of_mem hf
  have:=(key i hi).1;simp at this;exact this.2
 ·obtain ⟨i,hi,rfl⟩:=List.getElem_of_mem hf
  have:=(key i hi).2.2.1;simpa using this
 ·have:=(key i hi).2.1
  rw [u6 (by omega)] at this
  cases hs:sk l[j].name l[i].name with
  |false=>rfl
  |true=>exact absurd ⟨j,hj,hji,hs⟩ this
 ·have:=(key i hi).2.2.2
  rw [u6 (by omega)] at this
  cases hs:uq l[j] l[i] with
  |false=>rfl
  |true=>exact absurd ⟨j,hj,hji,hs⟩ this
theorem Checked.fds {l:List RF} (h:Checked l):vf l=MM.fds (l.map RF.fd):=by
 unfold vf MM.fds
 rw [List.map_map]
 congr 1
 refine List.map_congr_left fun f hf=>?_
 have:=h.place f hf
 simp [uB] at this
 obtain ⟨s,a,w⟩:=f
 simp only at this
 simp only [tW,tD,Function.comp,MM.fd,RF.fd]
 rw [Int.toNat_of_nonneg (by omega),Int.toNat_of_nonneg (by omega)]
theorem Checked.ok {l:List RF} (h:Checked l):LOk (l.map RF.fd):=by
 refine ⟨by have:=h.len;simp;omega,fun f hf=>?_⟩
 obtain ⟨g,hg,rfl⟩:=List.mem_map.1 hf
 have:=h.place g hg
 simp [uB] at this
 exact ⟨by simp only [RF.fd];omega,by simp only [RF.fd];omega,by simp only [RF.fd];omega⟩
def preB (l:List RF) (h:List Int) (tick:Int):Bool:=(uy l==0)&&tR h&&decide (0≤tick)&&decide (tick≤1073741824)
def xi (l:List RF) (h:List Int) (tick:Int) (rs:List RO):Bool:=preB l h tick&&rs.all fun r=>vt (l.map RF.fd) r
theorem t18 (l:List RF) (hl:l.length<2^60) (hn: ∀f∈l,f.name.size<2^62) (h:List Int) (hh:h.length=10) (tick:Int) (rs:List RO) (hlr:rs.length<2^60) (hr: ∀r∈rs,r.wt<2^40∧uU r):
  DCalls Tryz.prog 4 [vf l,hd h,I tick,.slice 9 (rs.map tQ)] (.bool (xi l h tick rs)):=by
 have h47:=t47 l hl hn
 have h11:=t11 h hh
 refine qB (rs:=[.tmp 8]) mixed Tryz.func4 l4 rfl rfl rfl (r:=[.bool _]) (nlZ rfl) ?_
 unfold xi preB
 by_cases h20:l.length>20
 ·have:uy l=2:=by unfold uy;rw [if_pos (by omega)]
  rw [this]
  repeat' ((conv=>whnf);first|exact trivial|refine nT_ ?_|refine aE1 ?_|refine aE0 ?_|refine aN1 ?_|refine aN0 ?_|refine aD1 ?_|refine aD0 ?_|refine nE_ (fun hq=>?_) (fun hq=>?_)|refine nN_ (fun hq=>?_) (fun hq=>?_)|refine nD_ (fun hq=>?_) (fun hq=>?_)|refine rb1 ?_|refine rb0 ?_|refine rbx ?_|refine rix ?_|(refine And.intro (by first|(simp [hh];done)|fail) ?_)|refine aS ?_|fail)
 by_cases hc:uy l=0
 ·have ck:=x7 hc
  have hok:=ck.ok
  have hfd:=ck.fds
  have h48:=t48 _ hok
  have hLl:(l.map RF.fd).length≤16:=by simpa using ck.len
  generalize hL:l.map RF.fd=L at *
  rw [hc] at h47 ⊢
  cases hR:tR h with
  |false=>
   rw [hR] at h11
   repeat' ((conv=>whnf);first|exact trivial|refine rq _ (h47) ?_|refine rq _ (h11) ?_|refine nT_ ?_|refine aE1 ?_|refine aE0 ?_|refine aN1 ?_|refine aN0 ?_|refine aD1 ?_|refine aD0 ?_|refine nE_ (fun hq=>?_) (fun hq=>?_)|refine nN_ (fun hq=>?_) (fun hq=>?_)|refine nD_ (fun hq=>?_) (fun hq=>?_)|refine rb1 ?_|refine rb0 ?_|refine rbx ?_|refine rix ?_|(refine And.intro (by first|(simp [hh];done)|fail) ?_)|refine aS ?_|fail)
  |true=>
  rw [hR] at h11
  by_cases t0:0≤tick
  ·by_cases t1:tick≤1073741824
   ·have e:((0:Int)==0&&true&&decide (0≤tick)&&decide (tick≤1073741824)&&rs.all fun r=>vt L r)=rs.all fun r=>vt L r:=by simp [t0,t1]
    rw [e,hfd]
    rw [hfd] at h47
    repeat' ((conv=>whnf);first|exact trivial|refine rq _ (h47) ?_|refine rq _ (h11) ?_|refine nT_ ?_|refine aE1 ?_|refine aE0 ?_|refine aN1 ?_|refine aN0 ?_|refine aD1 ?_|refine aD0 ?_|refine nE_ (fun hq=>?_) (fun hq=>?_)|refine nN_ (fun hq=>?_) (fun hq=>?_)|refine nD_ (fun hq=>?_) (fun hq=>?_)|refine rb1 ?_|refine rb0 ?_|refine rbx ?_|refine rix ?_|(refine And.intro (by first|(simp [hh];done)|fail) ?_)|refine aS ?_|fail)
    refine qX (α:=Nat) (fun i=>{sl:=[(0,.t (MM.fds L)),(32,.t (.slice 9 (rs.map tQ))),(33,.t (I rs.length)),(34,.t (I i))],bx:=[]})
     (fun i=>i≤rs.length∧ ∀j (h:j<rs.length),j<i→vt L rs[j]=true) (fun i=>rs.length - i) 0 (by simp) ?_ ?_
    ·repeat' (first|exact trivial|exact LeV.same _|exact LeB.same _|exact rfl|exact fun _ _ _=>trivial|exact lI|exact LeV.nil _ _ _|exact lB|refine r9 ?_|refine rO ?_|refine And.intro ?_ ?_)
    rintro i ⟨hi,hp⟩
    rcases Nat.lt_or_ge i rs.length with h|h
    ·obtain ⟨w1,w2⟩:=hr _ (List.getElem_mem h)
     have c48:=h48 rs[i] w1 w2
     cases hb:vt L rs[i] with
     |true=>
      rw [hb] at c48
      have c48:DCalls Tryz.prog 15 [MM.fds L,.agg ([]++(sg rs[i]++[]))] (.bool true):=by simpa using c48
      repeat' ((conv=>whnf);first|exact trivial|(refine nv_ (.agg (sg rs[i])) (by first|(simp [h,sM];done)|fail) ?_)|refine rq _ (c48) ?_|refine nT_ ?_|refine aE1 ?_|refine aE0 ?_|refine aN1 ?_|refine aN0 ?_|refine aD1 ?_|refine aD0 ?_|refine nE_ (fun hq=>?_) (fun hq=>?_)|refine nN_ (fun hq=>?_) (fun hq=>?_)|refine nD_ (fun hq=>?_) (fun hq=>?_)|refine rb1 ?_|refine rb0 ?_|refine rbx ?_|refine rix ?_|(refine And.intro (by first|exact sm _|exact ⟨sm _,Nat.le_refl 9⟩|fail) ?_)|refine aS ?_|fail)
      refine ⟨i+1,⟨h,fun j hj hlt=>?_⟩,by omega,?_⟩
      ·rcases Nat.lt_or_ge j i with h4|h4
       ·exact hp j hj h4
       ·obtain rfl:j=i:=by omega
        exact hb
      ·repeat' (first|exact trivial|exact LeV.same _|exact LeB.same _|exact rfl|exact fun _ _ _=>trivial|exact lI|exact LeV.nil _ _ _|exact lB|refine r9 ?_|refine rO ?_|refine And.intro ?_ ?_)
     |false=>
      rw [hb] at c48
      have e2:(rs.all fun r=>vt L r)=false:=by
       rw [List.all_eq_false]
       exact ⟨_,List.getElem_mem h,by simp [hb]⟩
      rw [e2]
      have c48:DCalls Tryz.prog 15 [MM.fds L,.agg ([]++(sg rs[i]++[]))] (.bool false):=by simpa using c48
      repeat' ((conv=>whnf);first|exact trivial|(refine nv_ (.agg (sg rs[i])) (by first|(simp [h,sM];done)|fail) ?_)|refine rq _ (c48) ?_|refine nT_ ?_|refine aE1 ?_|refine aE0 ?_|refine aN1 ?_|refine aN0 ?_|refine aD1 ?_|refine aD0 ?_|refine nE_ (fun hq=>?_) (fun hq=>?_)|refine nN_ (fun hq=>?_) (fun hq=>?_)|refine nD_ (fun hq=>?_) (fun hq=>?_)|refine rb1 ?_|refine rb0 ?_|refine rbx ?_|refine rix ?_|(refine And.intro (by first|exact sm _|exact ⟨sm _,Nat.le_refl 9⟩|fail) ?_)|refine aS ?_|fail)
    ·have e2:(rs.all fun r=>vt L r)=true:=by
      rw [List.all_eq_true]
      intro r hr
      obtain ⟨j,hj,rfl⟩:=List.getElem_of_mem hr
      exact hp j hj (by omega)
     rw [e2]
     repeat' ((conv=>whnf);first|exact trivial|refine nT_ ?_|refine aE1 ?_|refine aE0 ?_|refine aN1 ?_|refine aN0 ?_|refine aD1 ?_|refine aD0 ?_|refine nE_ (fun hq=>?_) (fun hq=>?_)|refine nN_ (fun hq=>?_) (fun hq=>?_)|refine nD_ (fun hq=>?_) (fun hq=>?_)|refine rb1 ?_|refine rb0 ?_|refine rbx ?_|refine rix ?_|refine aS ?_|fail)
   ·have e:((0:Int)==0&&true&&decide (0≤tick)&&decide (tick≤1073741824)&&rs.all fun r=>vt L r)=false:=by simp [t0,t1]
    rw [e]
    repeat' ((conv=>whnf);first|exact trivial|refine rq _ (h47) ?_|refine rq _ (h11) ?_|refine nT_ ?_|refine aE1 ?_|refine aE0 ?_|refine aN1 ?_|refine aN0 ?_|refine aD1 ?_|refine aD0 ?_|refine nE_ (fun hq=>?_) (fun hq=>?_)|refine nN_ (fun hq=>?_) (fun hq=>?_)|refine nD_ (fun hq=>?_) (fun hq=>?_)|refine rb1 ?_|refine rb0 ?_|refine rbx ?_|refine rix ?_|(refine And.intro (by first|(simp [hh];done)|fail) ?_)|refine aS ?_|fail)
  ·have e:((0:Int)==0&&true&&decide (0≤tick)&&decide (tick≤1073741824)&&rs.all fun r=>vt L r)=false:=by simp [t0]
   rw [e]
   repeat' ((conv=>whnf);first|exact trivial|refine rq _ (h47) ?_|refine rq _ (h11) ?_|refine nT_ ?_|refine aE1 ?_|refine aE0 ?_|refine aN1 ?_|refine aN0 ?_|refine aD1 ?_|refine aD0 ?_|refine nE_ (fun hq=>?_) (fun hq=>?_)|refine nN_ (fun hq=>?_) (fun hq=>?_)|refine nD_ (fun hq=>?_) (fun hq=>?_)|refine rb1 ?_|refine rb0 ?_|refine rbx ?_|refine rix ?_|(refine And.intro (by first|(simp [hh];done)|fail) ?_)|refine aS ?_|fail)
 ·have e:(uy l==0)=false:=by simpa using hc
  rw [e]
  generalize uy l=c at *
  repeat' ((conv=>whnf);first|exact trivial|refine rq _ (h47) ?_|refine nT_ ?_|refine aE1 ?_|refine aE0 ?_|refine aN1 ?_|refine aN0 ?_|refine aD1 ?_|refine aD0 ?_|refine nE_ (fun hq=>?_) (fun hq=>?_)|refine nN_ (fun hq=>?_) (fun hq=>?_)|refine nD_ (fun hq=>?_) (fun hq=>?_)|refine rb1 ?_|refine rb0 ?_|refine rbx ?_|refine rix ?_|(refine And.intro (by first|(simp [hh];done)|fail) ?_)|refine aS ?_|fail)
end Go.MM
end
section
namespace Go.MM
open Go Go.DL Go.Proofs
def types:List TypeId:=[3,9,35,30,22,78,23,25,26,28]
theorem xC:Tryz.prog.underlying 23=some (.slice 25):=by kernel_rfl
theorem xD:Tryz.prog.underlying 26=some (.slice 28):=by kernel_rfl
theorem x6:Tryz.prog.cellsOf 3=1:=by kernel_rfl
theorem Cr:Tryz.prog.cellsOf 30=10:=by kernel_rfl
theorem uS {us:List T} (h:cm Tryz.prog 3 us): ∃n,us=[I n]∧(Lit.int .i64 n).wf=true:=by
 cases h with
 |int h n hw=>rw [Tryz.underlying3] at h;cases h;exact ⟨n,rfl,hw⟩
 |bool h|str h|nil h|slice h|struct h|array h=>rw [Tryz.underlying3] at h;cases h
theorem CA {us:List T} (h:cm Tryz.prog 30 us): ∃x:List Int,us=x.map I∧x.length=10∧ ∀n∈x,(Lit.int .i64 n).wf=true:=by
 cases h with
 |array h us hl hf=>
  rw [Tryz.underlying30] at h
  cases h
  rw [Cr] at hl
  have key: ∀i,i<10→ ∃n,us[i]? =some (I n)∧(Lit.int .i64 n).wf=true:=fun i hi=>by
   obtain ⟨n,e,w⟩:=uS (hf i hi)
   rw [x6,Nat.mul_one,List.take_one] at e
   refine ⟨n,?_,w⟩
   have:(us.drop i).head? =us[i]? :=by rw [List.head?_drop]
   rw [this] at e
   cases hx:us[i]? with
   |none=>rw [hx] at e;cases e
   |some x=>rw [hx] at e;cases e;rfl
  refine ⟨us.map fun t=>match t with|.int _ n=>n|_=>0,?_,by simpa using hl,fun n hn=>?_⟩
  ·refine List.ext_getElem? fun i=>?_
   rcases Nat.lt_or_ge i 10 with hi|hi
   ·obtain ⟨n,e,_⟩:=key i hi
    rw [e]
    simp [e]
   ·rw [List.getElem?_eq_none (by omega),List.getElem?_eq_none (by simp;omega)]
  ·obtain ⟨t,ht,rfl⟩:=List.mem_map.1 hn
   obtain ⟨i,hi⟩:=List.mem_iff_getElem?.1 ht
   obtain ⟨n,e,w⟩:=key i (by have:=(gsZ hi).1;omega)
   rw [e] at hi
   cases hi
   exact w
 |int h|bool h|str h|nil h|slice h|struct h=>rw [Tryz.underlying30] at h;cases h
theorem F7 (us:List T):mkT Tryz.prog 30 us= .agg us:=by unfold mkT;rw [Tryz.underlying30]
end Go.MM
end
section
namespace Go.MM
open Go Go.DL Go.Proofs
theorem y4:Tryz.prog.cellsOf 9=1:=by kernel_rfl
theorem Cs:Tryz.prog.cellsOf 23=1:=by kernel_rfl
theorem yu:Tryz.prog.cellsOf 25=5:=by kernel_rfl
theorem Ct:Tryz.prog.cellsOf 26=1:=by kernel_rfl
theorem zM:Tryz.prog.cellsOf 28=9:=by kernel_rfl
theorem zN:Tryz.prog.cellsOf 78=3:=by kernel_rfl
theorem F8 (us:List T):mkT Tryz.prog 25 us= .agg us:=by unfold mkT;rw [Tryz.underlying25]
theorem C6 (us:List T):mkT Tryz.prog 28 us= .agg us:=by unfold mkT;rw [Tryz.underlying28]
theorem F9 (us:List T):mkT Tryz.prog 78 us= .agg us:=by unfold mkT;rw [Tryz.underlying78]
theorem Gt:Tryz.prog.underlying 9=some .string:=by kernel_rfl
theorem zf {us:List T} (h:cm Tryz.prog 9 us): ∃s,us=[.str s]:=by
 cases h with
 |str h s hs=>exact ⟨s,rfl⟩
 |bool h|int h|nil h|slice h|struct h|array h=>rw [Gt] at h;cases h
def RdP (us:List T):Prop:= ∃r:RP,cV us (sj r)∧r.nodes≤aR us∧(aR us<2^62→wX r)
def Fc (us:List T):Prop:= ∃rs:List RP,cV us [.slice 5 (rs.map sR)]∧sG rs+1≤aR us∧(aR us<2^62→wq rs)
theorem CH {xs:List (List T)} (h: ∀x∈xs,RdP x): ∃rs:List RP,rs.length=xs.length∧(∀ (i:Nat) (x:List T) (r:RP),xs[i]? =some x→rs[i]? =some r→cV x (sj r))∧sG rs≤aR (xs.map .agg)∧(aR (xs.map .agg)<2^62→wq rs):=by
 induction xs with
 |nil=>exact ⟨[],rfl,by simp,by simp [sG],fun _=>trivial⟩
 |cons x xs ih=>
  obtain ⟨r,h1,h2,h3⟩:=h x (by simp)
  obtain ⟨rs,k1,k2,k3,k4⟩:=ih fun y hy=>h y (by simp [hy])
  refine ⟨r::rs,by simp [k1],fun i a b ha hb=>?_,?_,fun hb=>?_⟩
  ·cases i with
   |zero=>simp at ha hb;subst ha;subst hb;exact h1
   |succ i=>exact k2 i a b (by simpa using ha) (by simpa using hb)
  ·simp only [sG,List.map_cons,aR,T.bulk];omega
  ·simp only [List.map_cons,aR,T.bulk] at hb
   exact ⟨h3 (by omega),k4 (by omega)⟩
theorem D3 {us:List T} (h:us.length=5): ∃a b c d e,us=[a,b,c,d,e]:=by
 match us,h with
 |[a,b,c,d,e],_=>exact ⟨a,b,c,d,e,rfl⟩
theorem CI {t:TypeId} {us:List T} (h:cm Tryz.prog t us):(t=25→RdP us)∧(t=23→Fc us):=by
 induction h with
 |bool h b=>exact ⟨fun e=>(by subst e;rw [Tryz.underlying25] at h;cases h),fun e=>(by subst e;rw [xC] at h;cases h)⟩
 |int h n hw=>exact ⟨fun e=>(by subst e;rw [Tryz.underlying25] at h;cases h),fun e=>(by subst e;rw [xC] at h;cases h)⟩
 |str h s hs=>exact ⟨fun e=>(by subst e;rw [Tryz.underlying25] at h;cases h),fun e=>(by subst e;rw [xC] at h;cases h)⟩
 |array h us hl hf ih=>exact ⟨fun e=>(by subst e;rw [Tryz.underlying25] at h;cases h),fun e=>(by subst e;rw [xC] at h;cases h)⟩
 |nil h=>
  refine ⟨fun e=>(by subst e;rw [Tryz.underlying25] at h;cases h),fun e=>?_⟩
  exact ⟨[],.cons (Les.nil 5) rfl .nil,by simp [sG,aR,T.bulk],fun _=>trivial⟩
 |slice h xs hx hl ih=>
  refine ⟨fun e=>(by subst e;rw [Tryz.underlying25] at h;cases h),fun e=>?_⟩
  subst e
  rw [xC] at h
  cases h
  obtain ⟨rs,k1,k2,k3,k4⟩:=CH (xs:=xs) fun x hm=>(ih x hm).1 rfl
  have em:xs.map (mkT Tryz.prog 25)=xs.map .agg:=List.map_congr_left fun x _=>F8 x
  rw [em,yu]
  refine ⟨rs,.cons (Les.slice (by simp [k1]) fun i x y hx hy=>?_) rfl .nil,by simp only [aR,T.bulk];omega,fun hb=>k4 (by simp only [aR,T.bulk] at hb;omega)⟩
  rw [List.getElem?_map] at hx hy
  obtain ⟨x',hx',rfl⟩:=Option.map_eq_some_iff.1 hx
  obtain ⟨r',hr',rfl⟩:=Option.map_eq_some_iff.1 hy
  rw [sD]
  exact ⟨k2 i x' r' hx' hr',sQ r'⟩
 |struct h us hl hf ih=>
  refine ⟨fun e=>?_,fun e=>(by subst e;rw [xC] at h;cases h)⟩
  subst e
  rw [Tryz.underlying25] at h
  cases h
  rw [yu] at hl
  obtain ⟨a,b,c,d,e,rfl⟩:=D3 hl
  have f0:=hf ⟨ "Kind",3,0,false, "", "",0⟩ (by simp)
  have f1:=hf ⟨ "Field",9,1,false, "", "",8⟩ (by simp)
  have f2:=hf ⟨ "N",3,2,false, "", "",24⟩ (by simp)
  have f3:=hf ⟨ "M",3,3,false, "", "",32⟩ (by simp)
  have f4:=(ih ⟨ "Args",23,4,false, "", "",40⟩ (by simp)).2 rfl
  simp only [x6,y4,Cs,List.drop,List.take] at f0 f1 f2 f3 f4
  obtain ⟨k,e0,_⟩:=uS f0
  obtain ⟨s,e1⟩:=zf f1
  obtain ⟨n,e2,_⟩:=uS f2
  obtain ⟨m,e3,_⟩:=uS f3
  obtain ⟨rs,g1,g2,g3⟩:=f4
  simp only [List.cons.injEq,and_true] at e0 e1 e2 e3
  subst e0;subst e1;subst e2;subst e3
  refine ⟨.mk k s n m rs,.cons (Les.refl _) rfl (.cons (Les.refl _) rfl (.cons (Les.refl _) rfl (.cons (Les.refl _) rfl g1))),?_,fun hb=>?_⟩
  ·simp only [RP.nodes,aR,T.bulk] at g2 ⊢;omega
  ·simp only [aR,T.bulk] at g3 hb
   exact ⟨by omega,g3 (by omega)⟩
def RdO (us:List T):Prop:= ∃r:RO,cV us (sg r)∧r.wt≤aR us∧(aR us<2^62→uU r)
def Fb (us:List T):Prop:= ∃rs:List RO,cV us [.slice 9 (rs.map tQ)]∧s9 rs+1≤aR us∧(aR us<2^62→wo rs)
theorem CG {xs:List (List T)} (h: ∀x∈xs,RdO x): ∃rs:List RO,rs.length=xs.length∧(∀ (i:Nat) (x:List T) (r:RO),xs[i]? =some x→rs[i]? =some r→cV x (sg r))∧s9 rs≤aR (xs.map .agg)∧(aR (xs.map .agg)<2^62→wo rs):=by
 induction xs with
 |nil=>exact ⟨[],rfl,by simp,by simp [s9],fun _=>trivial⟩
 |cons x xs ih=>
  obtain ⟨r,h1,h2,h3⟩:=h x (by simp)
  obtain ⟨rs,k1,k2,k3,k4⟩:=ih fun y hy=>h y (by simp [hy])
  refine ⟨r::rs,by simp [k1],fun i a b ha hb=>?_,?_,fun hb=>?_⟩
  ·cases i with
   |zero=>simp at ha hb;subst ha;subst hb;exact h1
   |succ i=>exact k2 i a b (by simpa using ha) (by simpa using hb)
  ·simp only [s9,List.map_cons,aR,T.bulk];omega
  ·simp only [List.map_cons,aR,T.bulk] at hb
   exact ⟨h3 (by omega),k4 (by omega)⟩
theorem D4 {us:List T} (h:us.length=9): ∃a b c d e f g i j,us=[a,b,c,d,e,f,g,i,j]:=by
 match us,h with
 |[a,b,c,d,e,f,g,i,j],_=>exact ⟨a,b,c,d,e,f,g,i,j,rfl⟩
theorem cV.EX {a b c d e:T} {r:RP} (h:cV [a,b,c,d,e] (sj r)) {x y:T} {xs ys:List T} (k:cV (x::xs) (y::ys)):cV (a::b::c::d::e::x::xs) (sj r++y::ys):=cV.append h k
theorem A9 {t:TypeId} {us:List T} (h:cm Tryz.prog t us):(t=28→RdO us)∧(t=26→Fb us):=by
 induction h with
 |bool h b=>exact ⟨fun e=>(by subst e;rw [Tryz.underlying28] at h;cases h),fun e=>(by subst e;rw [xD] at h;cases h)⟩
 |int h n hw=>exact ⟨fun e=>(by subst e;rw [Tryz.underlying28] at h;cases h),fun e=>(by subst e;rw [xD] at h;cases h)⟩
 |str h s hs=>exact ⟨fun e=>(by subst e;rw [Tryz.underlying28] at h;cases h),fun e=>(by subst e;rw [xD] at h;cases h)⟩
 |array h us hl hf ih=>exact ⟨fun e=>(by subst e;rw [Tryz.underlying28] at h;cases h),fun e=>(by subst e;rw [xD] at h;cases h)⟩
 |nil h=>
  refine ⟨fun e=>(by subst e;rw [Tryz.underlying28] at h;cases h),fun e=>?_⟩
  exact ⟨[],.cons (Les.nil 9) rfl .nil,by simp [s9,aR,T.bulk],fun _=>trivial⟩
 |slice h xs hx hl ih=>
  refine ⟨fun e=>(by subst e;rw [Tryz.underlying28] at h;cases h),fun e=>?_⟩
  subst e
  rw [xD] at h
  cases h
  obtain ⟨rs,k1,k2,k3,k4⟩:=CG (xs:=xs) fun x hm=>(ih x hm).1 rfl
  have em:xs.map (mkT Tryz.prog 28)=xs.map .agg:=List.map_congr_left fun x _=>C6 x
  rw [em,zM]
  refine ⟨rs,.cons (Les.slice (by simp [k1]) fun i x y hx hy=>?_) rfl .nil,by simp only [aR,T.bulk];omega,fun hb=>k4 (by simp only [aR,T.bulk] at hb;omega)⟩
  rw [List.getElem?_map] at hx hy
  obtain ⟨x',hx',rfl⟩:=Option.map_eq_some_iff.1 hx
  obtain ⟨r',hr',rfl⟩:=Option.map_eq_some_iff.1 hy
  rw [sM]
  exact ⟨k2 i x' r' hx' hr',sm r'⟩
 |struct h us hl hf ih=>
  refine ⟨fun e=>?_,fun e=>(by subst e;rw [xD] at h;cases h)⟩
  subst e
  rw [Tryz.underlying28] at h
  cases h
  rw [zM] at hl
  obtain ⟨a,b,c,d,e,f,g,i,j,rfl⟩:=D4 hl
  have f0:=hf ⟨ "Kind",3,0,false, "", "",0⟩ (by simp)
  have f1:=(CI (hf ⟨ "Pred",25,1,false, "", "",8⟩ (by simp))).1 rfl
  have f2:=hf ⟨ "Field",9,6,false, "", "",72⟩ (by simp)
  have f3:=hf ⟨ "N",3,7,false, "", "",88⟩ (by simp)
  have f4:=(ih ⟨ "Args",26,8,false, "", "",96⟩ (by simp)).2 rfl
  simp only [x6,y4,yu,Ct,List.drop,List.take] at f0 f1 f2 f3 f4
  obtain ⟨k,e0,_⟩:=uS f0
  obtain ⟨p,p1,p2,p3⟩:=f1
  obtain ⟨s,e1⟩:=zf f2
  obtain ⟨n,e2,_⟩:=uS f3
  obtain ⟨rs,g1,g2,g3⟩:=f4
  simp only [List.cons.injEq,and_true] at e0 e1 e2
  subst e0;subst e1;subst e2
  refine ⟨.mk k p s n rs,.cons (Les.refl _) rfl (cV.EX p1 (.cons (Les.refl _) rfl (.cons (Les.refl _) rfl g1))),?_,fun hb=>?_⟩
  ·simp only [RO.wt,aR,T.bulk] at p2 g2 ⊢;omega
  ·simp only [aR,T.bulk] at p3 g3 hb
   exact ⟨p3 (by omega),by omega,g3 (by omega)⟩
theorem Br {us:List T} (h:cm Tryz.prog 78 us): ∃f:RF,us=tD f∧f.name.size<aR us:=by
 cases h with
 |struct h us hl hf=>
  rw [Tryz.underlying78] at h
  cases h
  rw [zN] at hl
  match us,hl with
  |[a,b,c],_=>
   have f0:=hf ⟨ "Name",9,0,false, "", "",0⟩ (by simp)
   have f1:=hf ⟨ "At",3,1,false, "", "",16⟩ (by simp)
   have f2:=hf ⟨ "Width",3,2,false, "", "",24⟩ (by simp)
   simp only [x6,y4,List.drop,List.take] at f0 f1 f2
   obtain ⟨s,e0⟩:=zf f0
   obtain ⟨n,e1,_⟩:=uS f1
   obtain ⟨m,e2,_⟩:=uS f2
   simp only [List.cons.injEq,and_true] at e0 e1 e2
   subst e0;subst e1;subst e2
   exact ⟨⟨s,n,m⟩,rfl,by simp [aR,T.bulk];omega⟩
 |int h|bool h|str h|nil h|slice h|array h=>rw [Tryz.underlying78] at h;cases h
theorem A8 {us:List T} (h:cm Tryz.prog 22 us): ∃l:List RF,Les (mkT Tryz.prog 22 us) (vf l)∧l.length≤aR us∧ ∀f∈l,f.name.size<aR us:=by
 have e: ∀t,mkT Tryz.prog 22 [t]=t:=fun t=>by unfold mkT;rw [Tryz.underlying22];rfl
 cases h with
 |nil h=>exact ⟨[],by rw [e];exact Les.nil 3,by simp,by simp⟩
 |slice h xs hx hl=>
  rw [Tryz.underlying22] at h
  cases h
  rw [e,zN]
  have em:xs.map (mkT Tryz.prog 78)=xs.map .agg:=List.map_congr_left fun x _=>F9 x
  rw [em]
  have key: ∃l:List RF,l.length=xs.length∧xs.map .agg=l.map tW∧l.length≤aR (xs.map .agg)∧ ∀f∈l,f.name.size<aR (xs.map .agg):=by
   clear hl em
   induction xs with
   |nil=>exact ⟨[],rfl,rfl,by simp,by simp⟩
   |cons x xs ih=>
    obtain ⟨f,h1,h2⟩:=Br (hx x (by simp))
    obtain ⟨l,k1,k2,k3,k4⟩:=ih fun y hy=>hx y (by simp [hy])
    refine ⟨f::l,by simp [k1],by simp only [List.map_cons,k2,h1];rfl,by simp only [List.map_cons,aR,T.bulk,List.length_cons];omega,fun g hg=>?_⟩
    simp only [List.map_cons,aR,T.bulk]
    rcases List.mem_cons.1 hg with rfl|hg
    ·omega
    ·have:=k4 g hg;omega
  obtain ⟨l,k1,k2,k3,k4⟩:=key
  refine ⟨l,by rw [k2];exact Les.refl _,by simp only [aR,T.bulk];omega,fun f hf=>by simp only [aR,T.bulk];have:=k4 f hf;omega⟩
 |int h|bool h|str h|array h|struct h=>rw [Tryz.underlying22] at h;cases h
end Go.MM
end
section
namespace Go.MM
open Go Go.DL Go.Proofs
theorem Rep.wY {S:ao} {w:World} {v:Value} (n:Nat) {bs:List T} (h:Rep S w v (.tup (.nil::bs))):Rep S w v (.tup (.slice n []::bs)):=by
 cases h with
 |tup cs _ hs h=>
  refine .tup cs _ (by simpa using hs) fun i x t hx ht=>?_
  cases i with
  |zero=>
   simp at ht
   subst ht
   exact Rep.kc n (h 0 x .nil hx rfl)
  |succ i=>exact h (i+1) x t hx (by simpa using ht)
theorem wY {P:Program} {f:FuncId} {ts bs:List T} (n:Nat) (h:DCalls P f ts (.tup (.nil::bs))):DCalls P f ts (.tup (.slice n []::bs)):=h.res fun _ _ _=>Rep.wY n
def Ag:Option (List (List Int))→T
 |some x=>.tup [sd x,.bool true]
 |none=>.tup [sd [],.bool false]
def yA:Option (List (List Int))→T
 |some x=>.tup [sd x,I 0]
 |none=>.tup [sd [],I 2]
theorem t82 (s:List (List Int)) (b:Bool):DCalls Tryz.prog 60 [sd s,.bool b] (Ag (if b then small s else none)):=by
 have go: ∀r,wpC Tryz.prog c60 (dC [sd s,.bool b]) (nK (dp Tryz.prog) [.tmp 4,.tmp 5] r)→DCalls Tryz.prog 60 [sd s,.bool b] (lh r):=fun r h=>
  qB (rs:=[.tmp 4,.tmp 5]) mixed Tryz.func60 l60 rfl rfl rfl (r:=r) (nlZ rfl) h
 cases b with
 |false=>
  refine wY 10 (go [.nil,.bool false] ?_)
  exact ⟨rfl,rfl,trivial⟩
 |true=>
  unfold small
  by_cases h:s.length>256
  ·rw [if_pos rfl,if_pos h]
   refine wY 10 (go [.nil,.bool false] ?_)
   refine rN true trivial (by simp;omega) ?_
   exact ⟨rfl,rfl,trivial⟩
  ·rw [if_pos rfl,if_neg h]
   refine go [sd s,.bool true] ?_
   refine rN false trivial (by simp;omega) ?_
   exact ⟨rfl,rfl,trivial⟩
theorem t49 (s:List (List Int)) (b:Bool):DCalls Tryz.prog 31 [sd s,.bool b] (yA (if b then some s else none)):=by
 have go: ∀r,wpC Tryz.prog c31 (dC [sd s,.bool b]) (nK (dp Tryz.prog) [.tmp 4,.tmp 5] r)→DCalls Tryz.prog 31 [sd s,.bool b] (lh r):=fun r h=>
  qB (rs:=[.tmp 4,.tmp 5]) mixed Tryz.func31 l31 rfl rfl rfl (r:=r) (nlZ rfl) h
 cases b with
 |false=>exact wY 10 (go [.nil,I 2] ⟨rfl,rfl,trivial⟩)
 |true=>exact go [sd s,I 0] ⟨rfl,rfl,trivial⟩
theorem t86 (all:List (List Int)) (h:List Int) (hs:SOk all) (hh:HOk h):DCalls Tryz.prog 74 [hd h,.cptr [sd all] 0] (.bool (all.contains h)):=by
 refine qB (rs:=[.tmp 3]) mixed Tryz.func74 l74 rfl rfl rfl (r:=[.bool (all.contains h)]) (nlZ rfl) ?_
 refine And.intro (by simp [hh.len]) ?_
 refine r8 (sd all) (Nat.lt_succ_self 0) rfl ?_
 refine rq _ (t16 all h hs.srt hs.ok.len hh.len (by have:=hs.len;omega)) ?_
 exact ⟨rfl,trivial⟩
def wI (all hs:List (List Int)):Int:=match hs.findIdx? fun x=>all.contains x with
 |some i=>i
 |none=> -1
theorem t100 (all hs:List (List Int)) (ha:SOk all) (ho:tL hs) (hl:hs.length<2^60):DCalls Tryz.prog 92 [sd hs,.clos 74 [.cptr [sd all] 0]] (I (wI all hs)):=by
 refine qB (rs:=[.tmp 4]) mixed Tryz.func92 l92 rfl rfl rfl (r:=[I (wI all hs)]) (nlZ rfl) ?_
 refine qX (α:=Nat) (fun i=>{sl:=[(0,.t (sd hs)),(1,.t (.clos 74 [.cptr [sd all] 0])),(7,.t (I hs.length)),(8,.t (I i))],bx:=[]}) (fun i=>i≤hs.length∧ ∀j (h:j<hs.length),j<i→all.contains hs[j]=false) (fun i=>hs.length - i) 0 (by simp) ?_ ?_
 ·exact ⟨⟨.same _,.same _,leI (by simp),.same _,trivial⟩,trivial,trivial,rfl,fun _ _ _=>trivial,rfl⟩
 rintro i ⟨hi,hp⟩
 refine rM trivial (fun hq=>?_) (fun hq=>?_)
 ·have h1:i<hs.length:=by simpa using hq
  have x1:=ho _ (List.getElem_mem h1)
  refine r8 (hd hs[i]) (by simpa using h1) (by simp [h1]) ?_
  refine r8 (hd hs[i]) (by simpa [hd,T.cells] using x1.len) rfl ?_
  refine rq _ (t86 all hs[i] ha x1) ?_
  cases hm:all.contains hs[i] with
  |true=>
   have:wI all hs=i:=by
    unfold wI
    rw [List.findIdx?_eq_some_iff_getElem.2 ⟨h1,hm,fun j hj=>by simpa using hp j (by omega) hj⟩]
   exact ⟨congrArg (fun n=>some (I n)) this.symm,trivial⟩
  |false=>
   refine ⟨i+1,⟨h1,fun j hj hlt=>?_⟩,by omega,?_⟩
   ·rcases Nat.lt_or_ge j i with h4|h4
    ·exact hp j hj h4
    ·obtain rfl:j=i:=by omega
     exact hm
   ·exact ⟨⟨.same _,.same _,.same _,leI (by rw [mj] <;> omega),trivial⟩,trivial,trivial,rfl,fun _ _ _=>trivial,rfl⟩
 ·have hge:hs.length≤i:=by simpa using hq
  have:wI all hs= -1:=by
   unfold wI
   rw [List.findIdx?_eq_none_iff.2 fun f hf=>by
    obtain ⟨j,hj,rfl⟩:=List.mem_iff_getElem.1 hf
    exact hp j hj (by omega)]
  exact ⟨congrArg (fun n=>some (I n)) this.symm,trivial⟩
theorem eJ.dc {P:Program} {f:FuncId} {ts:List T} {e:TypeId} {size:Nat} {xs rest:List T} (h:eJ P f ts e size xs rest):DCalls P f ts (lh (.slice size xs::rest)):=by
 refine ⟨h.1,fun S w vs hS hG hl hr=>(h.2 S w vs hS hG hl hr).mono ?_⟩
 rintro en w' ⟨v,us,rfl,hb,hf,hlen,hrest⟩
 refine ⟨_,rfl,hb,?_⟩
 have hv:Rep (fun b o=>S b o∨(w.heap.size≤b∧b<w'.heap.size)) w' v (.slice size xs):=by
  obtain ⟨cells,hown,hcl,hc⟩:=hf.ex
  let E:Env:={S:=fun b o=>v.ownBlock=some b∧o<(xs.flatMap T.cells).length,w:=w',B:=w.heap.size,κ:=fun _=>0,ρ:=fun _=>v.ownBlock,live:=fun _=>false }
  have ho:bP E v 0 e size xs:=by
   refine ⟨⟨cells,hown,hcl,fun i x t hx ht=>(hc i x t hx ht).mono (fun _ _ h=>h.elim) (fun _ _ _=>aA.rfl)⟩,hf.uni,hf.one,fun g hg=>⟨hg,fun o=>?_⟩⟩
   show (v.ownBlock=some g∧_)↔_
   exact ⟨fun h=>h.2,fun h=>⟨hg,h⟩⟩
  refine ho.rep.mono (fun b o hs=>?_) (fun _ _ _=>aA.rfl)
  obtain ⟨hb,_⟩:=hs
  right
  rcases hown.2 with ⟨rfl,_⟩|⟨g,cap,cur,rfl,h1,h2,_⟩
  ·simp [Value.ownBlock] at hb
  ·simp only [Value.ownBlock,Option.some.injEq] at hb
   subst hb
   exact ⟨h1,(Array.getElem?_eq_some_iff.1 h2).1⟩
 cases us with
 |nil=>
  cases rest with
  |nil=>exact hv
  |cons t r=>simp at hlen
 |cons u us=>
  cases rest with
  |nil=>simp at hlen
  |cons t r=>
   refine .tup _ _ (by simpa using hlen) fun i x y hx hy=>?_
   cases i with
   |zero=>simp at hx hy;subst hx;subst hy;exact hv
   |succ i=>
    have:=(hrest i x y (by simpa using hx) (by simpa using hy)).2
    exact this.mono (fun _ _ h=>h.elim) (fun _ _ _=>aA.rfl)
theorem zx (a b:List (List Int)) (ha:sC a) (hb:sC b) (hl:a.length+b.length<2^40):DCalls Tryz.prog 61 [sd a,sd b] (sd (mrg a b)):=eJ.dc (t13 a b ha hb hl)
end Go.MM
end
section
namespace Go.MM
open Go Go.DL Go.Proofs
abbrev z5:List T:=[I 0,nm0,I 0,I 0,.slice 5 []]
def se:Po→T
 |.filter p=>.agg (I 1::((sF p).cells++[nm0,I 0,.slice 9 []]))
 |.set f n=>.agg (I 2::(z5++[.str f,I n,.slice 9 []]))
 |.union a b=>.agg (I 3::(z5++[nm0,I 0,.slice 9 [se a,se b]]))
 |.seq a b=>.agg (I 4::(z5++[nm0,I 0,.slice 9 [se a,se b]]))
 |.star a=>.agg (I 5::(z5++[nm0,I 0,.slice 9 [se a]]))
theorem tg (p:Po):T.agg (se p).cells=se p∧(se p).cells.length=9:=by
 cases p with
 |filter p=>
  refine ⟨rfl,?_⟩
  show (I 1::((sF p).cells++[nm0,I 0,.slice 9 []])).length=9
  rw [List.length_cons,List.length_append,(ta p).2];rfl
 |_=>exact ⟨rfl,rfl⟩
def G79 (l:List Fd) (tick:Int) (p:Po):Prop:= ∀h,HOk h→DCalls Tryz.prog 57 [se p,hd h,.cptr [W73 l tick 0] 0,.cptr [fds l] 0] (Ag (gives l tick p h))
theorem tJ (p:Po): ∃cs,se p= .agg cs∧cs.length=9:=⟨_,(tg p).1.symm,(tg p).2⟩
theorem Ab (g:List Int→Option (List (List Int))) (h:List Int) (hs out:List (List Int)):image g (h::hs) out=match g h with
  |none=>none
  |some a=>match small (mrg out a) with
   |none=>none
   |some out'=>image g hs out':=rfl
theorem t55 (l:List Fd) (hl:LOk l) (tick:Int) (p:Po) (hp:OOk l p) (hg:G79 l tick p) (hs:List (List Int)) (hok:tL hs) (hlen:hs.length<2^32):
  eJ Tryz.prog 62 [W73 l tick 0,se p,sd hs] 30 10 (((image (gives l tick p) hs []).getD []).map hd) [.bool (image (gives l tick p) hs []).isSome]:=by
 obtain ⟨cs,hcs,hc9⟩:=tJ p
 have hgok: ∀h s,HOk h→gives l tick p h=some s→SOk s:=fun h s hh e=>tc hl hp hh e
 unfold G79 at hg
 rw [hcs] at hg ⊢
 generalize hgg:gives l tick p=g at *
 refine qE (rs:=[.tmp 6,.tmp 7]) mixed Tryz.func62 l62 rfl rfl rfl (nlZ rfl) ?_
 refine And.intro hc9 ?_
 refine qN (α:=Nat×List (List Int)) (β:=Option (List (List Int))) 0 (fun q=>{sl:=[(0,.t (W73 l tick 0)),(4,.ptr 4 0),(8,.own 33 30 10 (q.2.map hd)),(9,.t (.bool true)),(14,.t (sd hs)),(15,.t (I hs.length)),(16,.t (I q.1))],bx:=[(4,.d 9 cs)]})
  (fun q=>q.1≤hs.length∧SOk q.2∧image g (hs.drop q.1) q.2=image g hs []) (fun q=>hs.length - q.1)
  (fun o=>{sl:=[(8,match o with|some x=>.own 33 30 10 (x.map hd)|none=>.t .nil),(9,.t (.bool o.isSome))],bx:=[]}) (fun o=>o=image g hs []) (0,[]) ⟨by simp,tk,rfl⟩ ?_ ?_ ?_
 ·exact ⟨⟨.same _,.same _,.nil _ _ _,.same _,.same _,leI (by simp),.same _,trivial⟩,⟨.same _,trivial⟩,trivial,rfl,fun _ _ _=>trivial,rfl⟩
 ·rintro ⟨i,out⟩ ⟨hi,hout,him⟩
  dsimp only at hi hout him
  refine rM trivial (fun hq=>?_) (fun hq=>?_)
  ·have h1:i<hs.length:=by simpa using hq
   have x1:=hok _ (List.getElem_mem h1)
   rw [List.drop_eq_getElem_cons h1] at him
   rw [Ab] at him
   refine r8 (hd hs[i]) (by simpa using h1) (by simp [h1]) ?_
   refine r8 (hd hs[i]) (by simpa [hd,T.cells] using x1.len) rfl ?_
   refine And.intro ⟨by simp [x1.len],by decide⟩ ?_
   have hcall:=hg hs[i] x1
   have hbox:T.agg (aJ u5 0 10 (hs[i].map I))=hd hs[i]:=by simp [aJ,hd]
   rw [← hbox] at hcall
   cases hgi:g hs[i] with
   |none=>
    rw [hgi] at hcall him
    simp only at him
    refine rq _ hcall ?_
    refine rj (ts:=[sd out,sd []]) (rd:=[]) (xs:=(mrg out []).map hd) (rest:=[]) rfl (t13 out [] hout.ok.len (fun x hx=>by cases hx) (by have:=hout.len;simp;omega)) ?_
    refine rh mixed Tryz.func60 l60 rfl rfl (rs:=[.tmp 4,.tmp 5]) rfl 1000 (nlZ rfl) ?_
    refine ⟨_,rfl,?_⟩
    exact ⟨none,him,⟨.same _,.same _,trivial⟩,trivial,trivial,rfl,fun _ _ _=>trivial,rfl⟩
   |some a=>
    rw [hgi] at hcall him
    simp only at him
    have ha:=hgok _ _ x1 hgi
    refine rq _ hcall ?_
    refine rj (ts:=[sd out,sd a]) (rd:=[]) (xs:=(mrg out a).map hd) (rest:=[]) rfl (t13 out a hout.ok.len ha.ok.len (by have:=hout.len;have:=ha.len;omega)) ?_
    refine rh mixed Tryz.func60 l60 rfl rfl (rs:=[.tmp 4,.tmp 5]) rfl 1000 (nlZ rfl) ?_
    by_cases hbig:(mrg out a).length>256
    ·have hsm:small (mrg out a)=none:=by unfold small;rw [if_pos hbig]
     rw [hsm] at him
     simp only at him
     refine rN true trivial (by simp;omega) ?_
     refine ⟨_,rfl,?_⟩
     exact ⟨none,him,⟨.same _,.same _,trivial⟩,trivial,trivial,rfl,fun _ _ _=>trivial,rfl⟩
    ·have hsm:small (mrg out a)=some (mrg out a):=by unfold small;rw [if_neg hbig]
     rw [hsm] at him
     simp only at him
     refine rN false trivial (by simp;omega) ?_
     refine ⟨_,rfl,?_⟩
     refine ⟨(i+1,mrg out a),⟨h1,(um (tq hout.ok.len ha.ok.len hout.srt ha.srt) (tu hout.ok ha.ok) hsm).1,him⟩,by simp;omega,?_⟩
     exact ⟨⟨.same _,.same _,.same _,.same _,.same _,.same _,leI (by rw [mj] <;> simp <;> omega),trivial⟩,⟨.same _,trivial⟩,trivial,rfl,fun _ _ _=>trivial,rfl⟩
  ·have hge:hs.length≤i:=by simpa using hq
   rw [List.drop_eq_nil_of_le hge] at him
   exact ⟨some out,him,⟨.same _,.same _,trivial⟩,trivial,trivial,rfl,fun _ _ _=>trivial,rfl⟩
 ·rintro o rfl
  cases him:image g hs [] with
  |none=>exact ⟨wG _,by simp [T.flat],_,rfl,.inr ⟨rfl,rfl⟩⟩
  |some x=>exact ⟨wG _,by simp [T.flat],_,rfl,.inl ⟨33,rfl⟩⟩
end Go.MM
end
section
namespace Go.MM
open Go Go.DL Go.Proofs
def sA (L:List (List Int)):List T:=(L.map hd).flatMap T.cells
theorem ux (x:List Int) (L:List (List Int)):sA (x::L)=x.map I++sA L:=rfl
theorem vr (a b:List (List Int)):sA (a++b)=sA a++sA b:=by simp [sA]
theorem wA: ∀{L:List (List Int)},sC L→(sA L).length=L.length * 10
 |[],_=>rfl
 |x::L,h=>by
  rw [ux,List.length_append,wA fun y hy=>h y (by simp [hy]),List.length_map,h x (by simp),List.length_cons];omega
theorem uP {L:List (List Int)} (h:sC L) (j:Nat) (hj:j≤L.length):(sA L).take (j * 10)=sA (L.take j)∧(sA L).drop (j * 10)=sA (L.drop j):=by
 have e:sA L=sA (L.take j)++sA (L.drop j):=by rw [← vr,List.take_append_drop]
 have hl:(sA (L.take j)).length=j * 10:=by
  rw [wA fun y hy=>h y (List.mem_of_mem_take hy),List.length_take,Nat.min_eq_left hj]
 constructor
 ·rw [e,List.take_append_of_le_length (by omega),List.take_of_length_le (by omega)]
 ·rw [e,List.drop_append_of_le_length (by omega),List.drop_eq_nil_of_le (by omega),List.nil_append]
theorem zY {L:List (List Int)} (h:sC L) (j:Nat) (hj:j<L.length):((sA L).drop (j * 10)).take 10=L[j].map I:=by
 rw [(uP h j (by omega)).2,List.drop_eq_getElem_cons hj,ux,List.take_append_of_le_length (by simp [h _ (List.getElem_mem hj)]),List.take_of_length_le (by simp [h _ (List.getElem_mem hj)])]
theorem zZ {L:List (List Int)} (h:sC L) (i:Nat) (hi:i<L.length) (x:List Int):aJ (sA L) (i * 10) 10 (x.map I)=sA (L.set i x):=by
 unfold aJ
 rw [(uP h i (by omega)).1,show i * 10+10=(i+1) * 10 by omega,(uP h (i+1) hi).2, ←ux, ←vr,List.set_eq_take_append_cons_drop,if_pos hi]
theorem AP {L:List (List Int)} (h:sC L): ∀(k:Nat),k≤L.length→chunk 10 k (sA L)=(L.take k).map hd
 |0,_=>by simp [chunk]
 |k+1,hk=>by
  cases L with
  |nil=>simp at hk
  |cons x L=>
   have hx:=h x (by simp)
   show DL.elemOf 10 ((sA (x::L)).take 10)::chunk 10 k ((sA (x::L)).drop 10)=_
   rw [ux,List.take_append_of_le_length (by simp [hx]),List.take_of_length_le (by simp [hx]),List.drop_append_of_le_length (by simp [hx]),List.drop_eq_nil_of_le (by simp [hx]),List.nil_append,AP (L:=L) (fun y hy=>h y (by simp [hy])) k (by simpa using hk)]
   rfl
theorem vu: ∀{a b:List (List Int)},sC a→sC b→(∀ x∈b, ¬x∈a)→(mrg a b).length=a.length+b.length
 |[],b,_,_,_=>by simp [mrg]
 |x::a,[],_,_,_=>by rw [vE];simp
 |x::a,y::b,ha,hb,h=>by
  have ha':sC a:=fun z hz=>ha z (by simp [hz])
  have hb':sC b:=fun z hz=>hb z (by simp [hz])
  rcases Int.lt_trichotomy (nx (x::a) (y::b)) 0 with hn|hn|hn
  ·rw [yf hn,List.length_cons,vu ha' hb fun z hz hza=>h z hz (by simp [hza])];simp;omega
  ·exfalso
   have e:x=y:=uM ((ha x (by simp)).trans (hb y (by simp)).symm) hn
   exact h y (by simp) (by simp [e])
  ·rw [ye hn,List.length_cons,vu ha hb' fun z hz hza=>h z (by simp [hz]) hza];simp;omega
termination_by a b=>a.length+b.length
theorem y5 {L:List (List Int)} (h:sC L) (i n:Nat) (hi:i≤L.length) (hn:L.length=n):aJ (sA L) (i * 10) ((n - i) * 10) (List.replicate (n - i) u5).flatten=sA (L.take i++List.replicate (n - i) z10):=by
 unfold aJ
 have e: ∀m,(List.replicate m u5).flatten=sA (List.replicate m z10):=fun m=>by
  induction m with
  |zero=>rfl
  |succ m ih=>rw [List.replicate_succ,List.flatten_cons,ih,List.replicate_succ,ux];rfl
 rw [(uP h i hi).1,e,vr]
 have:(sA L).drop (i * 10+(n - i) * 10)=[]:=List.drop_eq_nil_of_le (by rw [wA h];omega)
 rw [this,List.append_nil]
theorem C2 {ks:List Nat} {bx:Nat→Option BX} {n off a b size:Nat} (h:a=b):LeV ks bx (.view n off a size) (.view n off b size):=by rw [h];exact .same _
theorem FT {ks:List Nat} {bx:Nat→Option BX} {n m:Nat} {ts us:List T} (h1:n=m) (h:ts=us):LeB ks bx (.d n ts) (some (.d m us)):=by rw [h,h1];exact .same _
def Gp:Option (List (List Int)×Nat)→T
 |some (x,n)=>.tup [sd x,I n,.bool true]
 |none=>.tup [sd [],I 0,.bool false]
theorem z8 {all next:List (List Int)}:(wI all next= -1∧next.filter (fun x=> !all.contains x)=next)∨ ∃(k:Nat) (h:k<next.length),wI all next=k∧all.contains next[k]=true∧(next.take k).filter (fun x=> !all.contains x)=next.take k:=by
 unfold wI
 cases hf:next.findIdx? fun x=>all.contains x with
 |none=>
  refine .inl ⟨rfl,List.filter_eq_self.2 fun x hx=>?_⟩
  simpa using List.findIdx?_eq_none_iff.1 hf x hx
 |some k=>
  obtain ⟨h1,h2,h3⟩:=List.findIdx?_eq_some_iff_getElem.1 hf
  refine .inr ⟨k,h1,rfl,h2,List.filter_eq_self.2 fun x hx=>?_⟩
  obtain ⟨j,hj,rfl⟩:=List.mem_iff_getElem.1 hx
  have hj':j<k:=by simp at hj;omega
  simpa using h3 j hj'
theorem rounds_succ (im:List (List Int)→Option (List (List Int))) (n:Nat) (all last:List (List Int)) (r:Nat):rounds im (n+1) all last r=match im last with
  |none=>none
  |some next=>match small (mrg all (next.filter fun x=> !all.contains x)) with
   |none=>none
   |some all'=>if (next.filter fun x=> !all.contains x)=[] then some (all',r) else rounds im n all' (next.filter fun x=> !all.contains x) (r+1):=rfl
abbrev S4 (l:List Fd) (tick:Int) (cs:List T) (all next:List (List Int)) (r:Nat) (b:Bool):Wk:=
 {sl:=[(0,.t (W73 l tick 0)),(4,.ptr 4 0),(9,.ptr 9 0),(10,.t (I r)),(12,match next with|[]=>.t (sd [])|_::_=>.view 23 0 next.length 10),(13,.t (.bool b))],bx:=(4,.d 9 cs)::(9,.v [.t (sd all)])::(match next with|[]=>[]|_::_=>[(23,.d (next.length * 10) (sA next))])}
abbrev S5 (l:List Fd) (tick:Int) (cs:List T) (all f:List (List Int)) (r:Nat) (b:Bool):Wk:=
 {sl:=[(0,.t (W73 l tick 0)),(4,.ptr 4 0),(9,.ptr 9 0),(10,.t (I r)),(11,.t (sd f)),(13,.t (.bool b))],bx:=[(4,.d 9 cs),(9,.v [.t (sd all)])]}
abbrev S85 (l:List Fd) (tick:Int) (cs:List T) (all:List (List Int)) (n r:Nat) (b:Bool) (i j:Nat) (L:List (List Int)):Wk:=
 {sl:=[(0,.view 23 0 n 10),(1,.fn 74 [.ptr 9 0]),(5,.t (I i)),(6,.t (I j))],bx:=[(4,.d 9 cs),(9,.v [.t (sd all)]),(23,.d (n * 10) (sA L))],gh:=[(0,[(0,.t (W73 l tick 0)),(4,.ptr 4 0),(9,.ptr 9 0),(10,.t (I r)),(13,.t (.bool b))])],off:=1000 }
theorem yx {P:Program} {f:FuncId} {args:List V} {d:Option Nat} {st:St} {K:St→Prop} {ts:List T} (r:T) (hc:bg st.bx args=some (ts,[])) (h:DCalls P f ts r) (hk:K (st.set d (.t r))):bY P f args d st K:=by
 unfold bY
 rw [hc]
 exact ⟨r,h,hk⟩
attribute [local irreducible] bY
theorem t56 (l:List Fd) (hl:LOk l) (tick:Int) (p:Po) (hp:OOk l p) (hg:G79 l tick p) (h:List Int) (hh:HOk h):
  DCalls Tryz.prog 42 [W73 l tick 0,se p,hd h] (Gp (rounds (fun s=>image (gives l tick p) s []) 300 [h] [h] 0)):=by
 have h55:=t55 l hl tick p hp hg
 obtain ⟨cs,hcs,hc9⟩:=tJ p
 have hgok: ∀h s,HOk h→gives l tick p h=some s→SOk s:=fun h s hh e=>tc hl hp hh e
 have hiok: ∀a s,SOk a→image (gives l tick p) a []=some s→SOk s:=fun a s ha e=>uI hgok ha.ok tk e
 rw [hcs] at h55 ⊢
 generalize gives l tick p=g at *
 have go: ∀r,wpC Tryz.prog c42 (dC [W73 l tick 0,.agg cs,hd h]) (nK (dp Tryz.prog) [.tmp 6,.tmp 7,.tmp 8] r)→DCalls Tryz.prog 42 [W73 l tick 0,.agg cs,hd h] (lh r):=fun r hw=>
  qB (rs:=[.tmp 6,.tmp 7,.tmp 8]) mixed Tryz.func42 l42 rfl rfl rfl (r:=r) (nlZ rfl) hw
 generalize hR:rounds (fun s=>image g s []) 300 [h] [h] 0=R
 let rr:List T:=match R with
  |some (x,n)=>[sd x,I n,.bool true]
  |none=>[.nil,I 0,.bool false]
 suffices hs:wpC Tryz.prog c42 (dC [W73 l tick 0,.agg cs,hd h]) (nK (dp Tryz.prog) [.tmp 6,.tmp 7,.tmp 8] rr) by
  have:=go rr hs
  cases R with
  |none=>exact wY 10 this
  |some q=>exact this
 refine And.intro hc9 ?_
 refine And.intro (by simp [hh.len]) ?_
 refine And.intro (by simp [hh.len]) ?_
 refine And.intro (Nat.lt_succ_self 0) ?_
 refine qX (α:=Nat×List (List Int)×List (List Int)×Nat) (fun q=>{sl:=[(0,.t (W73 l tick 0)),(4,.ptr 4 0),(9,.ptr 9 0),(10,.t (I q.2.2.2)),(11,.t (sd q.2.2.1))],bx:=[(4,.d 9 cs),(9,.v [.t (sd q.2.1)])]})
  (fun q=>SOk q.2.1∧SOk q.2.2.1∧rounds (fun s=>image g s []) q.1 q.2.1 q.2.2.1 q.2.2.2=R∧301≤q.1+q.2.1.length∧q.1+q.2.2.2=300) (fun q=>q.1) (300,[h],[h],0) ⟨tG hh,tG hh,hR,by simp,rfl⟩ ?_ ?_
 ·refine ⟨⟨.same _,.same _,.same _,.same _,.conv _ _ [] rfl (by simp),trivial⟩,⟨.same _,.v _ _ ⟨.conv _ _ [] rfl (by simp),trivial⟩,trivial⟩,trivial,rfl,fun _ _ _=>trivial,rfl⟩
 rintro ⟨n,all,last,r⟩ ⟨ha,hla,hro,hn,hnr⟩
 dsimp only at ha hla hro hn hnr
 have:=ha.len
 obtain ⟨n,rfl⟩: ∃m,n=m+1:=⟨n - 1,by omega⟩
 rw [rounds_succ] at hro
 have hlast:last.length<2^32:=by have:=hla.len;omega
 have h55':=h55 last hla.ok hlast
 refine rf (β:=List (List Int)×Bool) (fun q=>S4 l tick cs all q.1 r q.2) (fun q=>(image g last []=none∧q.1=[]∧q.2=false)∨(image g last []=some q.1∧q.2=true)) ?_ ?_
 ·cases him:image g last [] with
  |none=>
   rw [him] at h55'
   refine q7 (ts:=[W73 l tick 0,.agg cs,sd last]) (rd:=[]) (xs:=[]) (rest:=[.bool false]) (e:=30) (size:=10) rfl h55' rfl (fun _=>?_) ?_
   ·exact ⟨([],false),.inl ⟨rfl,rfl,rfl⟩,⟨.same _,.same _,.same _,.same _,.empty _,.same _,trivial⟩,⟨.same _,.same _,trivial⟩,trivial,rfl,fun _ _ _=>trivial,rfl⟩
   ·exact ⟨([],false),.inl ⟨rfl,rfl,rfl⟩,⟨.same _,.same _,.same _,.same _,.conv _ _ [23] rfl (by simp [Wk.keys]),.same _,trivial⟩,⟨.same _,.same _,trivial⟩,trivial,rfl,fun _ _ _=>trivial,rfl⟩
  |some next=>
   rw [him] at h55'
   refine q7 (ts:=[W73 l tick 0,.agg cs,sd last]) (rd:=[]) (xs:=next.map hd) (rest:=[.bool true]) (e:=30) (size:=10) rfl h55' rfl (fun hx=>?_) ?_
   ·have hnil:next=[]:=by simpa using hx
    subst hnil
    exact ⟨([],true),.inr ⟨rfl,rfl⟩,⟨.same _,.same _,.same _,.same _,.empty _,.same _,trivial⟩,⟨.same _,.same _,trivial⟩,trivial,rfl,fun _ _ _=>trivial,rfl⟩
   ·rcases next with _|⟨x,next⟩
    ·exact ⟨([],true),.inr ⟨rfl,rfl⟩,⟨.same _,.same _,.same _,.same _,.conv _ _ [23] rfl (by simp [Wk.keys]),.same _,trivial⟩,⟨.same _,.same _,trivial⟩,trivial,rfl,fun _ _ _=>trivial,rfl⟩
    ·have e1:((x::next).map hd).length=(x::next).length:=by simp
     refine ⟨(x::next,true),.inr ⟨rfl,rfl⟩,⟨.same _,.same _,.same _,.same _,C2 ?_,.same _,trivial⟩,⟨.same _,.same _,FT ?_ rfl,trivial⟩,trivial,rfl,fun _ _ _=>trivial,rfl⟩
     ·exact e1.symm
     ·rw [e1]
 rintro ⟨next,b⟩ hinv
 dsimp only at hinv
 refine rf (β:=List (List Int)) (fun f=>S5 l tick cs all f r b) (fun f=>f=next.filter fun x=> !all.contains x) ?_ ?_
 ·rcases next with _|⟨x0,next0⟩
  ·refine rh mixed Tryz.func73 l73 rfl rfl (rs:=[.tmp 4]) rfl 1000 (nlZ rfl) ?_
   refine q9 (ts:=[sd [],.clos 74 [.cptr [sd all] 0]]) (rd:=[9]) (I (-1)) rfl (t100 all [] ha (fun x hx=>by cases hx) (by decide)) rfl ?_
   refine rN true trivial rfl ?_
   refine ⟨_,rfl,?_⟩
   exact ⟨[],rfl,⟨.same _,.same _,.same _,.same _,.same _,.same _,trivial⟩,⟨.same _,.same _,trivial⟩,trivial,rfl,fun _ _ _=>trivial,rfl⟩
  ·have hnx:SOk (x0::next0):=by
    rcases hinv with ⟨_,h2,_⟩|⟨h2,_⟩
    ·cases h2
    ·exact hiok _ _ hla h2
   generalize hN:x0::next0=N at *
   have hNl:=hnx.len
   have hNt:=hnx.ok.len
   have hNp:0<N.length:=by rw [← hN];simp
   have hst:S4 l tick cs all N r b={sl:=[(0,.t (W73 l tick 0)),(4,.ptr 4 0),(9,.ptr 9 0),(10,.t (I r)),(12,.view 23 0 N.length 10),(13,.t (.bool b))],bx:=[(4,.d 9 cs),(9,.v [.t (sd all)]),(23,.d (N.length * 10) (sA N))]}:=by
    rw [← hN]
   rw [hst]
   have hch: ∀L:List (List Int),sC L→ ∀k,k≤L.length→T.slice 10 (chunk 10 k ((sA L).drop 0))=sd (L.take k):=fun L hL k hk=>by
    rw [List.drop_zero,AP hL k hk];rfl
   have hcv: ∀(bx:Nat→Option BX) (L:List (List Int)) (k:Nat),bx 23=some (.d (N.length * 10) (sA L))→sC L→L.length=N.length→k≤L.length→conv bx (.view 23 0 k 10)=some (sd (L.take k),[23]):=fun bx L k hb hL hLl hk=>by
    have:conv bx (.view 23 0 k 10)=(match bx 23 with|some (.d m ts)=>cond (Nat.blt 0 10&&Nat.ble (0+k * 10) m) (some (T.slice 10 (chunk 10 k (ts.drop 0)),[23])) none|_=>none):=rfl
    rw [this,hb]
    simp only
    have h1:Nat.ble (0+k * 10) (N.length * 10)=true:=Nat.ble_eq_true_of_le (by omega)
    rw [h1,hch L hL k hk]
    rfl
   have hc:=t100 all N ha hnx.ok (by omega)
   refine rh mixed Tryz.func73 l73 rfl rfl (rs:=[.tmp 4]) rfl 1000 (nlZ rfl) ?_
   rcases z8 (all:=all) (next:=N) with ⟨h1,h2⟩|⟨k,hk,h1,h2,h3⟩
   ·rw [h1] at hc
    refine q9 (ts:=[sd N,.clos 74 [.cptr [sd all] 0]]) (rd:=[23,9]) (I (-1)) ?_ hc rfl ?_
    ·have:=hcv (fun n=>lk none [(4,some (.d 9 cs)),(9,some (.v [.t (sd all)])),(23,some (.d (N.length * 10) (sA N)))] n) N N.length rfl hNt rfl (Nat.le_refl _)
     rw [List.take_length] at this
     exact mA this rfl
    refine rN true trivial rfl ?_
    refine ⟨_,rfl,?_⟩
    refine ⟨N,h2.symm,⟨.same _,.same _,.same _,.same _,.conv _ _ [23] ?_ (by simp [Wk.keys]),.same _,trivial⟩,⟨.same _,.same _,trivial⟩,trivial,rfl,fun _ _ _=>trivial,rfl⟩
    have:=hcv (fun n=>lk none [(23,some (.d (N.length * 10) (sA N)))] n) N N.length rfl hNt rfl (Nat.le_refl _)
    rw [List.take_length] at this
    exact this
   ·rw [h1] at hc
    refine q9 (ts:=[sd N,.clos 74 [.cptr [sd all] 0]]) (rd:=[23,9]) (I k) ?_ hc rfl ?_
    ·have:=hcv (fun n=>lk none [(4,some (.d 9 cs)),(9,some (.v [.t (sd all)])),(23,some (.d (N.length * 10) (sA N)))] n) N N.length rfl hNt rfl (Nat.le_refl _)
     rw [List.take_length] at this
     exact mA this rfl
    refine rN false trivial (by simp) ?_
    refine qX (α:=Nat×Nat×List (List Int)) (fun q=>S85 l tick cs all N.length r b q.1 (q.2.1+1) q.2.2)
     (fun q=>q.1<q.2.1+1∧q.2.1+1≤N.length∧q.2.2.length=N.length∧sC q.2.2∧q.2.2.take q.1=(N.take (q.2.1+1)).filter (fun x=> !all.contains x)∧q.2.2.drop (q.2.1+1)=N.drop (q.2.1+1)) (fun q=>N.length - q.2.1) (k,k,N) ⟨Nat.lt_succ_self k,hk,rfl,hNt,?_,rfl⟩ ?_ ?_
    ·rw [List.take_succ_eq_append_getElem hk,List.filter_append,h3]
     simp
     exact List.contains_iff_mem.1 h2
    ·exact ⟨⟨.same _,.same _,.same _,leI (by dsimp only;rw [mj] <;> omega),trivial⟩,⟨.same _,.same _,.same _,trivial⟩,⟨⟨.same _,.same _,.same _,.same _,.same _,trivial⟩,trivial⟩,rfl,fun _ _ _=>trivial,rfl⟩
    rintro ⟨i,j',L⟩ ⟨q1,q2,q3,q4,q5,q6⟩
    dsimp only at q1 q2 q3 q4 q5 q6
    obtain ⟨j,hjj⟩: ∃j,j=j'+1:=⟨_,rfl⟩
    rw [← hjj] at q1 q2 q5 q6
    refine rM trivial (fun hq=>?_) (fun hq=>?_)
    ·have hj:j<N.length:=by simp at hq;omega
     have hjL:j<L.length:=by omega
     have hx:L[j]=N[j]:=by
      have e:L[j]? =N[j]? :=by have:=congrArg List.head? q6;simpa [List.head?_drop] using this
      rw [ggZ hjL,ggZ hj] at e
      exact Option.some.inj e
     have xok:=hnx.ok _ (List.getElem_mem hj)
     refine And.intro (by dsimp only;omega) ?_
     refine r8 (hd N[j]) (by simp;omega) (by
      show T.agg (((sA L).drop (0+((j'+1:Nat):Int).toNat * 10)).take 10)=_
      rw [← hjj,Int.toNat_natCast,Nat.zero_add,zY q4 j hjL,hx];rfl) ?_
     refine And.intro ⟨by simp [xok.len],by decide⟩ ?_
     have hcall:=t86 all N[j] ha xok
     have hbox:T.agg (aJ u5 0 10 (N[j].map I))=hd N[j]:=by simp [aJ,hd]
     rw [← hbox] at hcall
     refine q9 (ts:=[T.agg (aJ u5 0 10 (N[j].map I)),.cptr [sd all] 0]) (rd:=[9]) _ rfl hcall rfl ?_
     have hf:(N.take (j+1)).filter (fun x=> !all.contains x)=L.take i++(if all.contains N[j] then [] else [N[j]]):=by
      rw [List.take_succ_eq_append_getElem hj,List.filter_append,q5]
      by_cases hc2:N[j]∈all <;> simp [hc2]
     cases hm:all.contains N[j] with
     |true=>
      rw [hm] at hf
      refine ⟨(i,j,L),⟨by dsimp only;omega,hj,q3,q4,by rw [hf];simp,?_⟩,by dsimp only;omega,?_⟩
      ·rw [List.drop_eq_getElem_cons hjL,List.drop_eq_getElem_cons hj] at q6
       exact (List.cons.inj q6).2
      ·exact ⟨⟨.same _,.same _,.same _,leI (show ((j+1:Nat):Int)=IntKind.wrap .i64 (((j'+1:Nat):Int)+1) by rw [mj] <;> omega),trivial⟩,⟨.same _,.same _,.same _,trivial⟩,⟨⟨.same _,.same _,.same _,.same _,.same _,trivial⟩,trivial⟩,rfl,fun _ _ _=>trivial,rfl⟩
     |false=>
      rw [hm] at hf
      have hi:i<L.length:=by omega
      refine And.intro (by omega) ?_
      refine And.intro ⟨by simp [xok.len,aJ],by simp;omega⟩ ?_
      refine ⟨(i+1,j,L.set i N[j]),⟨by dsimp only;omega,hj,by simpa using q3,fun x hx=>?_,?_,?_⟩,by dsimp only;omega,?_⟩
      ·rcases List.mem_or_eq_of_mem_set hx with hx|rfl
       ·exact q4 x hx
       ·exact xok.len
      ·rw [hf,List.take_set,List.take_succ_eq_append_getElem hi,List.set_append_right _ _ (by simp;omega)]
       simp [List.length_take,Nat.min_eq_left (Nat.le_of_lt hi)]
      ·show (L.set i N[j]).drop (j+1)=N.drop (j+1)
       rw [List.drop_set_of_lt (by omega)]
       rw [List.drop_eq_getElem_cons hjL,List.drop_eq_getElem_cons hj] at q6
       exact (List.cons.inj q6).2
      ·refine ⟨⟨.same _,.same _,leI (show ((i+1:Nat):Int)=IntKind.wrap .i64 ((i:Int)+1) by rw [mj] <;> omega),leI (show ((j+1:Nat):Int)=IntKind.wrap .i64 (((j'+1:Nat):Int)+1) by rw [mj] <;> omega),trivial⟩,⟨.same _,.same _,r9 ?_,trivial⟩,⟨⟨.same _,.same _,.same _,.same _,.same _,trivial⟩,trivial⟩,rfl,fun _ _ _=>trivial,rfl⟩
       have:aJ u5 0 10 (N[j].map I)=N[j].map I:=by simp [aJ]
       show _=aJ (sA L) (0+(i:Int).toNat * 10) 10 (aJ u5 0 10 (N[j].map I))
       rw [this,Int.toNat_natCast,Nat.zero_add,zZ q4 i hi]
    ·have hj:j=N.length:=by simp at hq;omega
     subst hj
     rw [List.take_length] at q5
     refine And.intro (by simp;omega) ?_
     refine And.intro (by simp;omega) ?_
     refine And.intro (by simp;omega) ?_
     refine ⟨_,rfl,?_⟩
     have hi:i≤L.length:=by omega
     have hL2:(L.take i++List.replicate (N.length - i) z10).length=N.length:=by simp;omega
     have hL3:sC (L.take i++List.replicate (N.length - i) z10):=fun x hx=>by
      rcases List.mem_append.1 hx with hx|hx
      ·exact q4 x (List.mem_of_mem_take hx)
      ·rw [List.eq_of_mem_replicate hx];rfl
     have hL4:(L.take i++List.replicate (N.length - i) z10).take i=N.filter fun x=> !all.contains x:=by
      rw [List.take_append_of_le_length (by simp;omega),List.take_take,Nat.min_self,q5]
     refine ⟨N.filter fun x=> !all.contains x,rfl,⟨.same _,.same _,.same _,.same _,.conv (.view 23 0 i 10) _ [23] ?_ (by simp [Wk.keys]),.same _,trivial⟩,⟨.same _,.same _,trivial⟩,trivial,rfl,fun _ _ _=>trivial,rfl⟩
     rw [← hL4]
     refine hcv _ _ i ?_ hL3 hL2 (by rw [hL2];omega)
     have:=y5 q4 i N.length hi q3
     rw [← this]
     show some (BX.d (N.length * 10) (aJ (sA L) (0+(i:Int).toNat * 10) (((N.length:Int).toNat - (i:Int).toNat) * 10) (List.replicate ((N.length:Int).toNat - (i:Int).toNat) u5).flatten))=_
     rw [Int.toNat_natCast,Int.toNat_natCast,Nat.zero_add]
 ·rintro f rfl
  have hnx:SOk (next.filter fun x=> !all.contains x):=by
   rcases hinv with ⟨_,h2,_⟩|⟨h2,_⟩
   ·subst h2;exact tk
   ·exact wF _ (hiok _ _ hla h2)
  generalize hF:(next.filter fun x=> !all.contains x)=F at *
  have hap: ∀x∈F, ¬x∈all:=fun x hx hxa=>by
   rw [← hF,List.mem_filter] at hx
   have:=hx.2
   rw [List.contains_iff_mem.2 hxa] at this
   cases this
  refine yx (ts:=[sd all,sd F]) (sd (mrg all F)) rfl (zx all F ha.ok.len hnx.ok.len (by have:=hnx.len;omega)) ?_
  have h82:=t82 (mrg all F) b
  rcases hinv with ⟨hi1,hi2,hi3⟩|⟨hi1,hi3⟩
  ·subst hi3
   rw [hi1] at hro
   simp only at hro
   subst hro
   refine yx (ts:=[sd (mrg all F),.bool false]) _ rfl h82 ?_
   refine And.intro (Nat.lt_succ_self 0) ?_
   exact ⟨rfl,rfl,rfl,trivial⟩
  ·subst hi3
   rw [hi1] at hro
   simp only at hro
   rw [hF] at hro
   refine yx (ts:=[sd (mrg all F),.bool true]) _ rfl h82 ?_
   cases hsm:small (mrg all F) with
   |none=>
    rw [hsm] at hro
    simp only at hro
    subst hro
    refine And.intro (Nat.lt_succ_self 0) ?_
    exact ⟨rfl,rfl,rfl,trivial⟩
   |some all'=>
    rw [hsm] at hro
    simp only at hro
    obtain ⟨hok',he⟩:=um (tq ha.ok.len hnx.ok.len ha.srt hnx.srt) (tu ha.ok hnx.ok) hsm
    refine And.intro (Nat.lt_succ_self 0) ?_
    by_cases hFn:F=[]
    ·rw [if_pos hFn] at hro
     subst hro
     refine rN true trivial (by rw [hFn];rfl) ?_
     exact ⟨rfl,rfl,rfl,trivial⟩
    ·rw [if_neg hFn] at hro
     have hFl:0<F.length:=List.length_pos_iff.2 hFn
     refine rN false trivial (by simp;omega) ?_
     have hlen:=vu ha.ok.len hnx.ok.len hap
     refine ⟨(n,all',F,r+1),⟨hok',hnx,hro,by dsimp only;rw [he];omega,by dsimp only;omega⟩,by dsimp only;omega,?_⟩
     exact ⟨⟨.same _,.same _,.same _,leI (show ((r+1:Nat):Int)=IntKind.wrap .i64 ((r:Int)+1) by rw [mj] <;> omega),.same _,trivial⟩,⟨.same _,.same _,trivial⟩,trivial,rfl,fun _ _ _=>trivial,rfl⟩
end Go.MM
end
section
namespace Go.MM
open Go Go.DL Go.Proofs
theorem yB {P:Program} {f:FuncId} {ts:List T} (o:Option (List (List Int))) (h:DCalls P f ts (lh (.slice 10 ((o.getD []).map hd)::[.bool o.isSome]))):DCalls P f ts (Ag o):=by
 cases o with
 |none=>exact h
 |some x=>exact h
def both (ra rb:Option (List (List Int))):Option (List (List Int)):=match ra,rb with
 |some x,some y=>small (mrg x y)
 |_,_=>none
theorem BJ (s:List (List Int)):DCalls Tryz.prog 60 [sd s,.bool false] (.tup [sd [],.bool false]):=t82 s false
theorem Gs (s:List (List Int)):DCalls Tryz.prog 60 [sd s,.bool true] (Ag (small s)):=t82 s true
theorem t79 (l:List Fd) (hl:LOk l) (tick:Int): ∀p:Po,OOk l p→G79 l tick p:=by
 intro p
 induction p with
 |filter p=>
  intro hp h hh
  have go: ∀r,wpC Tryz.prog c57 (dC [se (.filter p),hd h,.cptr [W73 l tick 0] 0,.cptr [fds l] 0]) (nK (dp Tryz.prog) [.tmp 6,.tmp 7] r)→DCalls Tryz.prog 57 [se (.filter p),hd h,.cptr [W73 l tick 0] 0,.cptr [fds l] 0] (lh r):=fun r hw=>
   qB (rs:=[.tmp 6,.tmp 7]) mixed Tryz.func57 l57 rfl rfl rfl (r:=r) (nlZ rfl) hw
  have pre: ∀r,(holds l tick h p=true→r=[sd [h],.bool true])→(holds l tick h p=false→r=[.nil,.bool true])→wpC Tryz.prog c57 (dC [se (.filter p),hd h,.cptr [W73 l tick 0] 0,.cptr [fds l] 0]) (nK (dp Tryz.prog) [.tmp 6,.tmp 7] r):=fun r h1 h2=>by
   refine And.intro (tg (.filter p)).2 ?_
   refine And.intro (by simp [hh.len]) ?_
   refine r8 (I 1) (by decide) rfl ?_
   refine rN true trivial rfl ?_
   refine r8 (W73 l tick 0) (Nat.lt_succ_self 0) rfl ?_
   refine r8 (sF p) (by decide) (by
    show T.agg (((sF p).cells++[nm0,I 0,.slice 9 []]).take 5)=_
    rw [List.take_append_of_le_length (by rw [(ta p).2];exact Nat.le_refl _),List.take_of_length_le (by rw [(ta p).2];exact Nat.le_refl _),(ta p).1]) ?_
   refine rq _ (t73 l hl tick h hh p hp) ?_
   cases hb:holds l tick h p with
   |true=>
    rw [h1 hb]
    refine And.intro (by simp [hh.len]) ?_
    exact ⟨rfl,rfl,trivial⟩
   |false=>
    rw [h2 hb]
    exact ⟨rfl,rfl,trivial⟩
  unfold gives
  cases hb:holds l tick h p with
  |true=>exact go _ (pre _ (fun _=>rfl) (fun h=>by rw [hb] at h;cases h))
  |false=>exact wY 10 (go _ (pre [.nil,.bool true] (fun h=>by rw [hb] at h;cases h) (fun _=>rfl)))
 |set f n=>
  rintro ⟨F,hF,hn⟩ h hh
  have hok:=hl.find hF
  have ht:=t74 l f hl.len
  unfold uR at ht
  rw [hF] at ht
  have h1:=HOk.set hok vq (wK F F.w)
  have h2:=HOk.set hok vq (Nat.lt_of_le_of_lt (Nat.and_le_left (n:=n) (m:=sr F F.w)) hn)
  refine qB (rs:=[.tmp 6,.tmp 7]) mixed Tryz.func57 l57 rfl rfl rfl (r:=[sd [sB (fld l f) h n],.bool true]) (nlZ rfl) ?_
  refine And.intro rfl ?_
  refine And.intro (by simp [hh.len]) ?_
  refine r8 (I 2) (by decide) rfl ?_
  refine rN false trivial rfl ?_
  refine rN true trivial rfl ?_
  refine r8 (fds l) (Nat.lt_succ_self 0) rfl ?_
  refine r8 (.str f) (by decide) rfl ?_
  refine rq _ ht ?_
  refine And.intro ⟨rfl,by decide⟩ ?_
  refine r8 (I n) (by decide) rfl ?_
  refine rq _ (t81 F hok n hn) ?_
  refine rq _ (t80 _ _ h h1 h2 hh) ?_
  refine And.intro (by simp [tH]) ?_
  exact ⟨congrArg (fun x=>some (sd [x])) (by rw [zz hok hh n hn,tA hF]),rfl,trivial⟩
 |union a b iha ihb=>
  rintro ⟨ha,hb⟩ h hh
  have ga:=iha ha h hh
  have gb:=ihb hb h hh
  have oka:=fun s (e:gives l tick a h=some s)=>tc hl ha hh e
  have okb:=fun s (e:gives l tick b h=some s)=>tc hl hb hh e
  have e:gives l tick (.union a b) h=both (gives l tick a h) (gives l tick b h):=rfl
  rw [e]
  generalize gives l tick a h=ra at *
  generalize gives l tick b h=rb at *
  refine yB _ (qB (rs:=[.tmp 6,.tmp 7]) mixed Tryz.func57 l57 rfl rfl rfl (r:=.slice 10 (((both ra rb).getD []).map hd)::[.bool (both ra rb).isSome]) (nlZ rfl) ?_)
  refine And.intro rfl ?_
  refine And.intro (by simp [hh.len]) ?_
  refine r8 (I 3) (by decide) rfl ?_
  refine rN false trivial rfl ?_
  refine rN false trivial rfl ?_
  refine rN true trivial rfl ?_
  refine r8 (W73 l tick 0) (Nat.lt_succ_self 0) rfl ?_
  refine r8 (.slice 9 [se a,se b]) (by decide) rfl ?_
  refine r8 (se a) (by simp) rfl ?_
  refine r8 (se a) (tg a).2 (tg a).1 ?_
  refine rq _ ga ?_
  cases ra with
  |none=>
   refine r8 (W73 l tick 0) (Nat.lt_succ_self 0) rfl ?_
   refine r8 (.slice 9 [se a,se b]) (by decide) rfl ?_
   refine r8 (se b) (by simp) rfl ?_
   refine r8 (se b) (tg b).2 (tg b).1 ?_
   refine rq _ gb ?_
   cases rb with
   |none=>
    refine rq _ (zx [] [] (fun x hx=>by cases hx) (fun x hx=>by cases hx) (by decide)) ?_
    refine rq _ (BJ _) ?_
    exact ⟨rfl,rfl,trivial⟩
   |some y=>
    have hy:=okb y rfl
    refine rq _ (zx [] y (fun x hx=>by cases hx) hy.ok.len (by have:=hy.len;simp;omega)) ?_
    refine rq _ (BJ _) ?_
    exact ⟨rfl,rfl,trivial⟩
  |some x=>
   have hx:=oka x rfl
   refine r8 (W73 l tick 0) (Nat.lt_succ_self 0) rfl ?_
   refine r8 (.slice 9 [se a,se b]) (by decide) rfl ?_
   refine r8 (se b) (by simp) rfl ?_
   refine r8 (se b) (tg b).2 (tg b).1 ?_
   refine rq _ gb ?_
   cases rb with
   |none=>
    refine rq _ (zx x [] hx.ok.len (fun x hx=>by cases hx) (by have:=hx.len;simp;omega)) ?_
    refine rq _ (BJ _) ?_
    exact ⟨rfl,rfl,trivial⟩
   |some y=>
    have hy:=okb y rfl
    refine rq _ (zx x y hx.ok.len hy.ok.len (by have:=hx.len;have:=hy.len;omega)) ?_
    refine rq _ (Gs (mrg x y)) ?_
    have e2:both (some x) (some y)=small (mrg x y):=rfl
    rw [e2]
    cases small (mrg x y) with
    |none=>exact ⟨rfl,rfl,trivial⟩
    |some z=>exact ⟨rfl,rfl,trivial⟩
 |seq a b iha ihb=>
  rintro ⟨ha,hb⟩ h hh
  have ga:=iha ha h hh
  have oka:=fun s (e:gives l tick a h=some s)=>tc hl ha hh e
  have e:gives l tick (.seq a b) h=(gives l tick a h).bind fun x=>image (gives l tick b) x []:=by
   show (match gives l tick a h with|some x=>image (gives l tick b) x []|none=>none)=_
   cases gives l tick a h <;> rfl
  rw [e]
  generalize gives l tick a h=ra at *
  have go: ∀r,wpC Tryz.prog c57 (dC [se (.seq a b),hd h,.cptr [W73 l tick 0] 0,.cptr [fds l] 0]) (nK (dp Tryz.prog) [.tmp 6,.tmp 7] r)→DCalls Tryz.prog 57 [se (.seq a b),hd h,.cptr [W73 l tick 0] 0,.cptr [fds l] 0] (lh r):=fun r hw=>
   qB (rs:=[.tmp 6,.tmp 7]) mixed Tryz.func57 l57 rfl rfl rfl (r:=r) (nlZ rfl) hw
  have pre: ∀r,(ra=none→r=[.nil,.bool false])→(∀ x,ra=some x→r= .slice 10 (((image (gives l tick b) x []).getD []).map hd)::[.bool (image (gives l tick b) x []).isSome])→wpC Tryz.prog c57 (dC [se (.seq a b),hd h,.cptr [W73 l tick 0] 0,.cptr [fds l] 0]) (nK (dp Tryz.prog) [.tmp 6,.tmp 7] r):=fun r h1 h2=>by
   refine And.intro rfl ?_
   refine And.intro (by simp [hh.len]) ?_
   refine r8 (I 4) (by decide) rfl ?_
   refine rN false trivial rfl ?_
   refine rN false trivial rfl ?_
   refine rN false trivial rfl ?_
   refine rN true trivial rfl ?_
   refine r8 (W73 l tick 0) (Nat.lt_succ_self 0) rfl ?_
   refine r8 (.slice 9 [se a,se b]) (by decide) rfl ?_
   refine r8 (se a) (by simp) rfl ?_
   refine r8 (se a) (tg a).2 (tg a).1 ?_
   refine rq _ ga ?_
   cases ra with
   |none=>
    rw [h1 rfl]
    exact ⟨rfl,rfl,trivial⟩
   |some x=>
    have hx:=oka x rfl
    rw [h2 x rfl]
    refine r8 (W73 l tick 0) (Nat.lt_succ_self 0) rfl ?_
    refine r8 (.slice 9 [se a,se b]) (by decide) rfl ?_
    refine r8 (se b) (by simp) rfl ?_
    refine r8 (se b) (tg b).2 (tg b).1 ?_
    refine rq _ (eJ.dc (t55 l hl tick b hb (ihb hb) x hx.ok (by have:=hx.len;omega))) ?_
    exact ⟨rfl,rfl,trivial⟩
  cases ra with
  |none=>exact wY 10 (go [.nil,.bool false] (pre _ (fun _=>rfl) (fun x hx=>by cases hx)))
  |some x=>exact yB _ (go _ (pre _ (fun hx=>by cases hx) (fun y hy=>by cases hy;rfl)))
 |star a iha=>
  intro ha h hh
  have hs:=t56 l hl tick a ha (iha ha) h hh
  have e:gives l tick (.star a) h=(rounds (fun s=>image (gives l tick a) s []) 300 [h] [h] 0).map (·.1):=rfl
  rw [e]
  generalize rounds (fun s=>image (gives l tick a) s []) 300 [h] [h] 0=R at *
  refine yB _ (qB (rs:=[.tmp 6,.tmp 7]) mixed Tryz.func57 l57 rfl rfl rfl (r:=.slice 10 (((R.map (·.1)).getD []).map hd)::[.bool (R.map (·.1)).isSome]) (nlZ rfl) ?_)
  refine And.intro rfl ?_
  refine And.intro (by simp [hh.len]) ?_
  refine r8 (I 5) (by decide) rfl ?_
  refine rN false trivial rfl ?_
  refine rN false trivial rfl ?_
  refine rN false trivial rfl ?_
  refine rN false trivial rfl ?_
  refine r8 (W73 l tick 0) (Nat.lt_succ_self 0) rfl ?_
  refine r8 (.slice 9 [se a]) (by decide) rfl ?_
  refine r8 (se a) (by simp) rfl ?_
  refine r8 (se a) (tg a).2 (tg a).1 ?_
  refine rq _ hs ?_
  cases R with
  |none=>exact ⟨rfl,rfl,trivial⟩
  |some q=>exact ⟨rfl,rfl,trivial⟩
end Go.MM
end
section
namespace Go.MM
open Go Go.DL Go.Proofs
theorem Dp {x h:List Int} (hx:x.length=h.length) (h1: ¬su x h<0) (h2:x≠h):su h x<0:=by
 have e:=vJ x h
 have:su x h≠0:=fun e=>h2 (uM hx e)
 omega
theorem wL {h x:List Int}: ∀{l:List (List Int)},x∈tf l h↔x=h∨x∈l
 |[]=>by simp [tf]
 |y::l=>by
  unfold tf
  split
  ·rw [List.mem_cons,wL,List.mem_cons]
   exact ⟨fun h=>by rcases h with h|h|h <;> simp [h],fun h=>by rcases h with h|h|h <;> simp [h]⟩
  ·split
   ·rename_i e
    subst e
    simp
   ·simp
theorem zu {h:List Int} (hh:h.length=10): ∀{l:List (List Int)},sC l→Srt l→Srt (tf l h)
 |[],_,_=>xA h
 |y::l,hl,hs=>by
  unfold tf
  have hy:=hl y (by simp)
  split
  ·rename_i h1
   refine List.pairwise_cons.2 ⟨fun z hz=>?_,zu hh (fun z hz=>hl z (by simp [hz])) hs.tail⟩
   rcases wL.1 hz with rfl|hz
   ·exact h1
   ·exact hs.head z hz
  ·rename_i h1
   split
   ·exact hs
   ·rename_i h2
    have h3:=Dp (hy.trans hh.symm) h1 h2
    refine List.pairwise_cons.2 ⟨fun z hz=>?_,hs⟩
    rcases List.mem_cons.1 hz with rfl|hz
    ·exact h3
    ·exact uo (hh.trans hy.symm) (hy.trans (hl z (by simp [hz])).symm) h3 (hs.head z hz)
theorem AQ: ∀{b a:List (List Int)},sC a→sC b→Srt a→Srt b→b.foldl tf a=mrg a b:=by
 have key: ∀{b a:List (List Int)},sC a→sC b→Srt a→(Srt (b.foldl tf a)∧ ∀x,x∈b.foldl tf a↔x∈a∨x∈b):=by
  intro b
  induction b with
  |nil=>exact fun ha _ hs=>⟨hs,fun x=>by simp⟩
  |cons y b ih=>
   intro a ha hb hs
   have hy:=hb y (by simp)
   have ha':sC (tf a y):=fun z hz=>(wL.1 hz).elim (fun e=>e▸hy) (ha z)
   obtain ⟨h1,h2⟩:=ih ha' (fun z hz=>hb z (by simp [hz])) (zu hy ha hs)
   refine ⟨h1,fun x=>?_⟩
   rw [List.foldl_cons,h2,wL,List.mem_cons]
   exact ⟨fun h=>by rcases h with (h|h)|h <;> simp [h],fun h=>by rcases h with h|h|h <;> simp [h]⟩
 intro b a ha hb hs ht
 obtain ⟨h1,h2⟩:=key ha hb hs
 exact zV h1 (tq ha hb hs ht) fun x=>by rw [h2,tn ha hb]
theorem Gq (a b:List (List Int)) (ha:SOk a) (hb:SOk b):DCalls Tryz.prog 11 [sd a,sd b] (sd (mrg a b)):=by
 have:=t15 a b ha.ok.len hb.ok.len (by have:=ha.len;have:=hb.len;omega)
 rwa [AQ ha.ok.len hb.ok.len ha.srt hb.srt] at this
theorem CJ {P:Program} {f:FuncId} {ts:List T} (o:Option (List (List Int))) (h:DCalls P f ts (lh (.slice 10 ((o.getD []).map hd)::[I (if o.isSome then 0 else 2)]))):DCalls P f ts (yA o):=by
 cases o with
 |none=>exact h
 |some x=>exact h
theorem t28 (l:List Fd) (hl:LOk l) (tick:Int) (p:Po) (hp:OOk l p) (h:List Int) (hh:HOk h):DCalls Tryz.prog 8 [fds l,se p,hd h,I tick] (yA (gives l tick p h)):=by
 have hg:=t79 l hl tick p hp h hh
 obtain ⟨cs,hcs,hc9⟩:=tJ p
 rw [hcs] at hg ⊢
 generalize gives l tick p h=R at *
 refine CJ R (qB (rs:=[.tmp 8,.tmp 9]) mixed Tryz.func8 l8 rfl rfl rfl (r:=.slice 10 ((R.getD []).map hd)::[I (if R.isSome then 0 else 2)]) (nlZ rfl) ?_)
 refine And.intro hc9 ?_
 refine And.intro (by simp [hh.len]) ?_
 refine rq _ (t50 l tick) ?_
 refine rq _ hg ?_
 cases R with
 |none=>
  refine rq _ (t49 [] false) ?_
  exact ⟨rfl,rfl,trivial⟩
 |some x=>
  refine rq _ (t49 x true) ?_
  exact ⟨rfl,rfl,trivial⟩
def Gn:Option (List (List Int)×Nat)→T
 |some (_,n)=>.tup [I n,I 0]
 |none=>.tup [I 0,I 2]
def yq (l:List Fd) (tick:Int) (p:Po) (h:List Int):Option (List (List Int)×Nat):=rounds (fun s=>image (gives l tick p) s []) 300 [h] [h] 0
theorem t34 (l:List Fd) (hl:LOk l) (tick:Int) (p:Po) (hp:OOk l p) (h:List Int) (hh:HOk h):DCalls Tryz.prog 25 [fds l,se p,hd h,I tick] (Gn (yq l tick p h)):=by
 have hg:=t56 l hl tick p hp (t79 l hl tick p hp) h hh
 obtain ⟨cs,hcs,hc9⟩:=tJ p
 rw [hcs] at hg ⊢
 unfold yq
 generalize rounds (fun s=>image (gives l tick p) s []) 300 [h] [h] 0=R at *
 have go: ∀r,wpC Tryz.prog c25 (dC [fds l,.agg cs,hd h,I tick]) (nK (dp Tryz.prog) [.tmp 8,.tmp 9] r)→DCalls Tryz.prog 25 [fds l,.agg cs,hd h,I tick] (lh r):=fun r hw=>
  qB (rs:=[.tmp 8,.tmp 9]) mixed Tryz.func25 l25 rfl rfl rfl (r:=r) (nlZ rfl) hw
 cases R with
 |none=>
  refine go [I 0,I 2] ?_
  refine And.intro hc9 ?_
  refine And.intro (by simp [hh.len]) ?_
  refine rq _ (t50 l tick) ?_
  refine rq _ hg ?_
  exact ⟨rfl,rfl,trivial⟩
 |some q=>
  refine go [I q.2,I 0] ?_
  refine And.intro hc9 ?_
  refine And.intro (by simp [hh.len]) ?_
  refine rq _ (t50 l tick) ?_
  refine rq _ hg ?_
  exact ⟨rfl,rfl,trivial⟩
end Go.MM
end
section
namespace Go.MM
open Go Go.DL Go.Proofs
end Go.MM
end
section
namespace Go.MM
open Go Go.DL Go.Proofs
inductive LeC:List T→List T→Prop
 |nil:LeC [] []
 |same (t:T) {ts us:List T} (h:LeC ts us):LeC (t::ts) (t::us)
 |none (n:Nat) {ts us:List T} (h:LeC ts us):LeC (.nil::ts) (.slice n []::us)
theorem LeC.len: ∀{ts us:List T},LeC ts us→ts.length=us.length
 |_,_,.nil=>rfl
 |_,_,.same _ h=>congrArg (· +1) h.len
 |_,_,.none _ h=>congrArg (· +1) h.len
theorem LeC.get: ∀{ts us:List T},LeC ts us→ ∀{i:Nat} {u:T},us[i]? =some u→ts[i]? =some u∨ ∃n,ts[i]? =some .nil∧u= .slice n []
 |_,_,.nil,i,u,h=>by simp at h
 |_,_,.same t h,i,u,hu=>by
  cases i with
  |zero=>exact .inl hu
  |succ i=>simpa using h.get (by simpa using hu)
 |_,_,.none n h,i,u,hu=>by
  cases i with
  |zero=>simp at hu;exact .inr ⟨n,rfl,hu.symm⟩
  |succ i=>simpa using h.get (by simpa using hu)
theorem Rep.leC {S:ao} {w:World} {v:Value} {ts us:List T} (h:Rep S w v (.agg ts)) (hl:LeC ts us):Rep S w v (.agg us):=by
 cases h with
 |agg cs _ hs h1 h=>
  refine .agg cs us (hs.trans hl.len) (fun t ht=>?_) fun i x u hx hu=>?_
  ·obtain ⟨i,hi⟩:=List.mem_iff_getElem?.1 ht
   rcases hl.get hi with e|⟨n,_,rfl⟩
   ·exact h1 t (List.mem_of_getElem? e)
   ·rfl
  ·rcases hl.get hu with e|⟨n,e,rfl⟩
   ·exact h i x u hx e
   ·exact Rep.kc n (h i x .nil hx e)
theorem xt {P:Program} {f:FuncId} {xs ts us:List T} (h:DCalls P f xs (.agg ts)) (hl:LeC ts us):DCalls P f xs (.agg us):=h.res fun _ _ _ h=>Rep.leC h hl
inductive LeA:List T→List T→Prop
 |nil:LeA [] []
 |same (t:T) {ts us:List T} (h:LeA ts us):LeA (t::ts) (t::us)
 |agg {cs ds:List T} (hc:LeC cs ds) {ts us:List T} (h:LeA ts us):LeA (.agg cs::ts) (.agg ds::us)
 |slice (n:Nat) {ts us:List T} (h:LeA ts us):LeA (.nil::ts) (.slice n []::us)
theorem LeA.len: ∀{ts us:List T},LeA ts us→ts.length=us.length
 |_,_,.nil=>rfl
 |_,_,.same _ h=>congrArg (· +1) h.len
 |_,_,.agg _ h=>congrArg (· +1) h.len
 |_,_,.slice _ h=>congrArg (· +1) h.len
theorem LeA.get: ∀{ts us:List T},LeA ts us→ ∀{i:Nat} {t u:T},ts[i]? =some t→us[i]? =some u→t=u∨(∃ cs ds,t= .agg cs∧u= .agg ds∧LeC cs ds)∨ ∃n,t= .nil∧u= .slice n []
 |_,_,.nil,i,t,u,h,_=>by simp at h
 |_,_,.same t0 h,i,t,u,ht,hu=>by
  cases i with
  |zero=>simp at ht hu;exact .inl (ht.symm.trans hu)
  |succ i=>exact h.get (by simpa using ht) (by simpa using hu)
 |_,_,.agg hc h,i,t,u,ht,hu=>by
  cases i with
  |zero=>simp at ht hu;exact .inr (.inl ⟨_,_,ht.symm,hu.symm,hc⟩)
  |succ i=>exact h.get (by simpa using ht) (by simpa using hu)
 |_,_,.slice n h,i,t,u,ht,hu=>by
  cases i with
  |zero=>simp at ht hu;exact .inr (.inr ⟨n,ht.symm,hu.symm⟩)
  |succ i=>exact h.get (by simpa using ht) (by simpa using hu)
theorem yd {P:Program} {f:FuncId} {ts us:List T} {r:T} (hl:LeA ts us) (h:DCalls P f us r):DCalls P f ts r:=
 h.less hl.len fun S w i v t u ht hu hr=>by
  rcases hl.get ht hu with rfl|⟨cs,ds,rfl,rfl,hc⟩|⟨n,rfl,rfl⟩
  ·exact hr
  ·exact Rep.leC hr hc
  ·exact Rep.kc n hr
theorem wV (p:Pr): ∃cs,sF p= .agg cs∧cs.length=5:=⟨_,(ta p).1.symm,(ta p).2⟩
theorem t30 (f:ByteArray) (n:Nat):DCalls Tryz.prog 18 [.str f,I n] (sF (.eq f n)):=by
 refine xt (qB (rs:=[.cell 4 25]) mixed Tryz.func18 l18 rfl rfl rfl (r:=[.agg [I 3,.str f,I n,I 0,.nil]]) (nlZ rfl) ?_) (.same _ (.same _ (.same _ (.same _ (.none _ .nil)))))
 refine And.intro trivial ?_
 refine And.intro ⟨rfl,Nat.le_refl 5⟩ ?_
 exact ⟨rfl,trivial⟩
theorem Gr (p q:Pr):DCalls Tryz.prog 17 [I 7,sF p,sF q] (sF (.and p q)):=by
 obtain ⟨cs,hcs,h5⟩:=wV p
 obtain ⟨ds,hds,h6⟩:=wV q
 have e:sF (.and p q)= .agg [I 7,nm0,I 0,I 0,.slice 5 [sF p,sF q]]:=rfl
 rw [e,hcs,hds]
 refine qB (rs:=[.cell 6 25]) mixed Tryz.func17 l17 rfl rfl rfl (r:=[.agg [I 7,nm0,I 0,I 0,.slice 5 [.agg cs,.agg ds]]]) (nlZ rfl) ?_
 refine And.intro h5 ?_
 refine And.intro h6 ?_
 refine And.intro ⟨⟨trivial,h5⟩,h6⟩ ?_
 refine And.intro trivial ?_
 refine And.intro ⟨rfl,Nat.le_refl 5⟩ ?_
 exact ⟨rfl,trivial⟩
theorem t24 (p:Pr):DCalls Tryz.prog 22 [sF p] (se (.filter p)):=by
 obtain ⟨cs,hcs,h5⟩:=wV p
 have e:se (.filter p)= .agg (I 1::(cs++[nm0,I 0,.slice 9 []])):=by unfold se;rw [hcs];rfl
 rw [e,hcs]
 match cs,h5 with
 |[c0,c1,c2,c3,c4],_=>
  refine xt (qB (rs:=[.cell 2 28]) mixed Tryz.func22 l22 rfl rfl rfl (r:=[.agg [I 1,c0,c1,c2,c3,c4,nm0,I 0,.nil]]) (nlZ rfl) ?_) (.same _ (.same _ (.same _ (.same _ (.same _ (.same _ (.same _ (.same _ (.none _ .nil)))))))))
  refine And.intro rfl ?_
  refine And.intro ⟨trivial,rfl⟩ ?_
  refine And.intro ⟨rfl,Nat.le_refl 9⟩ ?_
  exact ⟨rfl,trivial⟩
theorem t29 (f:ByteArray) (n:Nat):DCalls Tryz.prog 21 [.str f,I n] (se (.set f n)):=by
 refine xt (qB (rs:=[.cell 4 28]) mixed Tryz.func21 l21 rfl rfl rfl (r:=[.agg [I 2,I 0,nm0,I 0,I 0,.nil,.str f,I n,.nil]]) (nlZ rfl) ?_) (.same _ (.same _ (.same _ (.same _ (.same _ (.none _ (.same _ (.same _ (.none _ .nil)))))))))
 refine And.intro trivial ?_
 refine And.intro ⟨rfl,Nat.le_refl 9⟩ ?_
 exact ⟨rfl,trivial⟩
theorem t19 (p q:Po):DCalls Tryz.prog 20 [se p,se q] (se (.union p q)):=by
 obtain ⟨cs,hcs,h5⟩:=tJ p
 obtain ⟨ds,hds,h6⟩:=tJ q
 have e:se (.union p q)= .agg (I 3::(z5++[nm0,I 0,.slice 9 [se p,se q]])):=rfl
 rw [e,hcs,hds]
 refine xt (qB (rs:=[.cell 4 28]) mixed Tryz.func20 l20 rfl rfl rfl (r:=[.agg [I 3,I 0,nm0,I 0,I 0,.nil,nm0,I 0,.slice 9 [.agg cs,.agg ds]]]) (nlZ rfl) ?_) (.same _ (.same _ (.same _ (.same _ (.same _ (.none _ (.same _ (.same _ (.same _ .nil)))))))))
 refine And.intro h5 ?_
 refine And.intro h6 ?_
 refine And.intro ⟨⟨trivial,h5⟩,h6⟩ ?_
 refine And.intro trivial ?_
 refine And.intro ⟨rfl,Nat.le_refl 9⟩ ?_
 exact ⟨rfl,trivial⟩
theorem t21 (p q:Po):DCalls Tryz.prog 23 [se p,se q] (se (.seq p q)):=by
 obtain ⟨cs,hcs,h5⟩:=tJ p
 obtain ⟨ds,hds,h6⟩:=tJ q
 have e:se (.seq p q)= .agg (I 4::(z5++[nm0,I 0,.slice 9 [se p,se q]])):=rfl
 rw [e,hcs,hds]
 refine xt (qB (rs:=[.cell 4 28]) mixed Tryz.func23 l23 rfl rfl rfl (r:=[.agg [I 4,I 0,nm0,I 0,I 0,.nil,nm0,I 0,.slice 9 [.agg cs,.agg ds]]]) (nlZ rfl) ?_) (.same _ (.same _ (.same _ (.same _ (.same _ (.none _ (.same _ (.same _ (.same _ .nil)))))))))
 refine And.intro h5 ?_
 refine And.intro h6 ?_
 refine And.intro ⟨⟨trivial,h5⟩,h6⟩ ?_
 refine And.intro trivial ?_
 refine And.intro ⟨rfl,Nat.le_refl 9⟩ ?_
 exact ⟨rfl,trivial⟩
theorem t26 (p:Po):DCalls Tryz.prog 24 [se p] (se (.star p)):=by
 obtain ⟨cs,hcs,h5⟩:=tJ p
 have e:se (.star p)= .agg (I 5::(z5++[nm0,I 0,.slice 9 [se p]])):=rfl
 rw [e,hcs]
 refine xt (qB (rs:=[.cell 2 28]) mixed Tryz.func24 l24 rfl rfl rfl (r:=[.agg [I 5,I 0,nm0,I 0,I 0,.nil,nm0,I 0,.slice 9 [.agg cs]]]) (nlZ rfl) ?_) (.same _ (.same _ (.same _ (.same _ (.same _ (.none _ (.same _ (.same _ (.same _ .nil)))))))))
 refine And.intro h5 ?_
 refine And.intro ⟨trivial,h5⟩ ?_
 refine And.intro trivial ?_
 refine And.intro ⟨rfl,Nat.le_refl 9⟩ ?_
 exact ⟨rfl,trivial⟩
def xT:ByteArray:=⟨#[100,115,116]⟩
def zt:ByteArray:=⟨#[115,114,99]⟩
def sO:ByteArray:=⟨#[107,105,110,100]⟩
def exL:List Fd:=[⟨xT,16,8⟩,⟨zt,24,8⟩,⟨sO,33,3⟩]
theorem t42:DCalls Tryz.prog 16 [] (fds exL):=by
 refine qB (rs:=[.tmp 0]) mixed Tryz.func16 l16 rfl rfl rfl (r:=[fds exL]) (nlZ rfl) ?_
 refine And.intro trivial ?_
 refine And.intro trivial ?_
 refine And.intro trivial ?_
 refine And.intro ⟨⟨⟨trivial,rfl⟩,rfl⟩,rfl⟩ ?_
 exact ⟨rfl,trivial⟩
end Go.MM
end
section
namespace Go.MM
open Go Go.DL Go.Proofs
def hx:List Int:=[5,4660,28672,0,0,0,0,0,0,0]
def hx1:List Int:=[5,4660,4096,0,0,0,0,0,0,0]
def hx2:List Int:=[5,4660,8192,0,0,0,0,0,0,0]
def hx3:List Int:=[5,4660,12288,0,0,0,0,0,0,0]
def hx4:List Int:=[5,4660,16384,0,0,0,0,0,0,0]
theorem Aa:HOk hx:=⟨rfl,rfl⟩
theorem zb:LOk exL:=⟨by decide,fun f hf=>by
 simp only [exL,List.mem_cons,List.not_mem_nil,or_false] at hf
 rcases hf with rfl|rfl|rfl <;> exact ⟨by decide,by decide,by decide⟩⟩
theorem BM:findF exL xT=some ⟨xT,16,8⟩:=rfl
theorem DY:findF exL zt=some ⟨zt,24,8⟩:=rfl
theorem CY:findF exL sO=some ⟨sO,33,3⟩:=rfl
def Ad:Pr:=.and (.eq xT 18) (.rng zt 50 60)
def Bp:Pr:=.pre xT 16 4
def Ae:Pr:=.time 3 5
def uX:Po:=.filter (.eq sO 7)
def yR:Po:=.union (.seq uX (.set sO 1)) (.seq (.filter (.eq sO 1)) (.set sO 4))
theorem vd (n:Nat) (h:n<8): ∃F,findF exL sO=some F∧n<2^F.w:=⟨_,CY,h⟩
theorem xY:OOk exL uX:=vd 7 (by decide)
theorem zR:OOk exL yR:=⟨⟨xY,vd 1 (by decide)⟩,⟨vd 1 (by decide),vd 4 (by decide)⟩⟩
theorem CC:POk exL Ad:=⟨⟨_,BM,by decide⟩,⟨_,DY,by decide,by decide⟩⟩
theorem C7:POk exL Bp:=⟨_,BM,by decide,by decide⟩
theorem v1:holds exL 0 hx Ad=true:=by decide+kernel
theorem v2:holds exL 0 hx Bp=true:=by decide+kernel
theorem v3:holds exL 4 hx Ae=true:=by decide+kernel
theorem v4:holds exL 5 hx Ae=false:=by decide+kernel
theorem v5:gives exL 0 (.union (.set sO 2) (.set sO 3)) hx=some [hx2,hx3]:=by decide+kernel
theorem v6:gives exL 0 (.seq (.seq uX (.set sO 1)) uX) hx=some []:=by decide+kernel
theorem v7:gives exL 0 (.star yR) hx=some [hx1,hx4,hx]:=by decide+kernel
theorem v8:(yq exL 0 yR hx).map (·.2)=some 2:=by decide+kernel
theorem lp5 (a b c d:T):LeC [a,b,c,d,.nil] [a,b,c,d,.slice 5 []]:=.same _ (.same _ (.same _ (.same _ (.none 5 .nil))))
theorem s36 (tick:Int) (p:Pr) (b:Bool) (hp:POk exL p) (h:holds exL tick hx p=b):DCalls Tryz.prog 19 [fds exL,sF p,hd hx,I tick] (.bool b):=h▸t36 exL zb tick hx Aa p hp
theorem s28 (p:Po) (o:Option (List (List Int))) (hp:OOk exL p) (h:gives exL 0 p hx=o):DCalls Tryz.prog 8 [fds exL,se p,hd hx,I 0] (yA o):=h▸t28 exL zb 0 p hp hx Aa
theorem s34 (p:Po) (n:Nat) (hp:OOk exL p) (h:(yq exL 0 p hx).map (·.2)=some n):DCalls Tryz.prog 25 [fds exL,se p,hd hx,I 0] (.tup [I n,I 0]):=by
 have:=t34 exL zb 0 p hp hx Aa
 cases hs:yq exL 0 p hx with
 |none=>rw [hs] at h;cases h
 |some q=>
  rw [hs] at h this
  cases h
  exact this
theorem s14 (a:List (List Int)) (ha: ∀x∈a,x.length=10) (hl:a.length<2^62):DCalls Tryz.prog 12 [sd a,sd a] (.bool true):=by
 have:=t14 a a ha ha hl
 rwa [beq_self_eq_true] at this
theorem EW:Srt [hx1,hx4,hx]:=by unfold Srt;decide
theorem s16 (h:List Int) (b:Bool) (hh:h.length=10) (hb:[hx1,hx4,hx].contains h=b):DCalls Tryz.prog 26 [sd [hx1,hx4,hx],hd h] (.bool b):=by
 have:=t16 [hx1,hx4,hx] h EW (by unfold sC;decide) hh (by decide)
 rwa [hb] at this
theorem vp {P:Program} {d:Option Nat} {c a b:O} {st:St} {K:St→Prop} (bl:Bool) (v:V) (hc:ev st.sl c= .t (.bool bl)) (hv:cond bl (ev st.sl a) (ev st.sl b)=v) (hk:K (st.set d v)):wpI P ⟨d,.pick c a b,none,[]⟩ st K:=by
 subst hv
 cases bl <;> (simp only [wpI,wpO,eff,hc,wpR];exact hk)
abbrev S12:Wk:=
 {sl:=[(2,.ptr 2 0),(3,.ptr 3 0),(4,.ptr 4 0),(5,.ptr 5 0),(8,.ptr 8 0),(9,.t (sd [hx2,hx3])),(10,.t (I 0)),(12,.t (sd [])),(13,.t (I 0)),(15,.t (sd [hx1,hx4,hx])),(16,.t (I 0)),(17,.t (I 2)),(18,.t (I 0))],bx:=[(2,.d 10 (hx.map I)),(3,.d 10 (hx1.map I)),(4,.d 10 (hx2.map I)),(5,.d 10 (hx4.map I)),(8,.d 10 (hx3.map I))]}
theorem t12:DCalls Tryz.prog 5 [] (.bool true):=by
 refine qB (rs:=[.tmp 0]) mixed Tryz.func5 l5 rfl rfl rfl (r:=[.bool true]) (nlZ rfl) ?_
 refine rq _ t42 ?_
 refine And.intro trivial ?_
 refine And.intro ⟨rfl,Nat.le_refl 10⟩ ?_
 refine And.intro rfl ?_
 refine And.intro rfl ?_
 refine And.intro rfl ?_
 refine And.intro rfl ?_
 refine And.intro rfl ?_
 refine And.intro rfl ?_
 refine And.intro rfl ?_
 refine And.intro ⟨rfl,Nat.le_refl 10⟩ ?_
 refine And.intro rfl ?_
 refine And.intro ⟨rfl,Nat.le_refl 10⟩ ?_
 refine And.intro rfl ?_
 refine And.intro ⟨rfl,Nat.le_refl 10⟩ ?_
 refine And.intro ⟨by decide,by decide⟩ ?_
 refine And.intro (by decide) ?_
 refine And.intro ⟨by decide,by decide⟩ ?_
 refine And.intro (by decide) ?_
 refine And.intro ⟨by decide,by decide⟩ ?_
 refine And.intro (by decide) ?_
 refine rq _ (t30 xT 18) ?_
 refine And.intro trivial ?_
 refine rq _ (yd (.same _ (.same _ (.agg (lp5 _ _ _ _) .nil))) (Gr (.eq xT 18) (.rng zt 50 60))) ?_
 refine And.intro ⟨rfl,Nat.le_refl 5⟩ ?_
 refine And.intro trivial ?_
 refine And.intro ⟨rfl,Nat.le_refl 5⟩ ?_
 refine rq _ (s36 0 Ad true CC v1) ?_
 refine And.intro trivial ?_
 refine rq _ (yd (.same _ (.agg (lp5 _ _ _ _) (.same _ (.same _ .nil)))) (s36 0 Bp true C7 v2)) ?_
 refine rq _ (yd (.same _ (.agg (lp5 _ _ _ _) (.same _ (.same _ .nil)))) (s36 4 Ae true trivial v3)) ?_
 refine rq _ (yd (.same _ (.agg (lp5 _ _ _ _) (.same _ (.same _ .nil)))) (s36 5 Ae false trivial v4)) ?_
 refine And.intro ⟨rfl,Nat.le_refl 10⟩ ?_
 refine And.intro ⟨by decide,by decide⟩ ?_
 refine And.intro (by decide) ?_
 refine rq _ (t29 sO 2) ?_
 refine rq _ (t29 sO 3) ?_
 refine rq _ (t19 (.set sO 2) (.set sO 3)) ?_
 refine rq _ (s28 _ _ ⟨vd 2 (by decide),vd 3 (by decide)⟩ v5) ?_
 refine rq _ (t30 sO 7) ?_
 refine rq _ (t24 (.eq sO 7)) ?_
 refine And.intro ⟨rfl,Nat.le_refl 9⟩ ?_
 refine rq _ (t29 sO 1) ?_
 refine rq _ (t21 uX (.set sO 1)) ?_
 refine rq _ (t21 (.seq uX (.set sO 1)) uX) ?_
 refine rq _ (s28 _ _ ⟨⟨xY,vd 1 (by decide)⟩,xY⟩ v6) ?_
 refine rq _ (t29 sO 1) ?_
 refine rq _ (t21 uX (.set sO 1)) ?_
 refine rq _ (t30 sO 1) ?_
 refine rq _ (t24 (.eq sO 1)) ?_
 refine rq _ (t29 sO 4) ?_
 refine rq _ (t21 (.filter (.eq sO 1)) (.set sO 4)) ?_
 refine rq _ (t19 (.seq uX (.set sO 1)) (.seq (.filter (.eq sO 1)) (.set sO 4))) ?_
 refine And.intro ⟨rfl,Nat.le_refl 9⟩ ?_
 refine rq _ (t26 yR) ?_
 refine rq _ (s28 _ _ zR v7) ?_
 refine rf (β:=Unit) (fun _=>S12) (fun _=>True) ?_ fun _ _=>?_
 ·refine rq _ (s34 _ _ zR v8) ?_
  exact ⟨(),trivial,⟨.same _,.same _,.same _,.same _,.same _,.same _,.same _,.same _,.same _,.same _,.same _,.same _,.same _,trivial⟩,⟨.same _,.same _,.same _,.same _,.same _,trivial⟩,trivial,rfl,fun _ _ _=>trivial,rfl⟩
 refine rN true trivial rfl ?_
 refine And.intro ⟨⟨trivial,rfl⟩,rfl⟩ ?_
 refine rq _ (s14 [hx2,hx3] (by decide) (by decide)) ?_
 refine vp true (.t (.bool true)) rfl rfl ?_
 refine rN true trivial rfl ?_
 refine vp true (.t (.bool true)) rfl rfl ?_
 refine rN true trivial rfl ?_
 refine vp true (.t (.bool true)) rfl rfl ?_
 refine rN true trivial rfl ?_
 refine vp true (.t (.bool true)) rfl rfl ?_
 refine And.intro ⟨⟨⟨trivial,rfl⟩,rfl⟩,rfl⟩ ?_
 refine rq _ (s14 [hx1,hx4,hx] (by decide) (by decide)) ?_
 refine vp true (.t (.bool true)) rfl rfl ?_
 refine rN true trivial rfl ?_
 refine vp true (.t (.bool true)) rfl rfl ?_
 refine rN true trivial rfl ?_
 refine vp true (.t (.bool true)) rfl rfl ?_
 refine rq _ (s16 hx4 true rfl (by decide)) ?_
 refine vp true (.t (.bool true)) rfl rfl ?_
 refine rq _ (s16 hx2 false rfl (by decide)) ?_
 exact ⟨rfl,trivial⟩
end Go.MM
end
section
namespace Go.MM
open Go Go.DL Go.Proofs
theorem uO {a b:ByteArray}:sk a b=true↔a=b:=by
 unfold sk
 rw [beq_iff_eq]
 constructor
 ·intro h
  cases a;cases b
  congr 1
  exact Array.toList_inj.1 h
 ·rintro rfl;rfl
def sU:Pr→RP
 |.tt=>.mk 1 e0 0 0 []
 |.ff=>.mk 2 e0 0 0 []
 |.eq f n=>.mk 3 f n 0 []
 |.pre f n m=>.mk 4 f n m []
 |.rng f n m=>.mk 5 f n m []
 |.not p=>.mk 6 e0 0 0 [sU p]
 |.and p q=>.mk 7 e0 0 0 [sU p,sU q]
 |.or p q=>.mk 8 e0 0 0 [sU p,sU q]
 |.time n m=>.mk 9 e0 n m []
theorem u7: ∀p:Pr,sR (sU p)=sF p
 |.tt|.ff|.eq _ _|.pre _ _ _|.rng _ _ _|.time _ _=>rfl
 |.not p=>by simp only [sU,sR,xq,u7 p];rfl
 |.and p q=>by simp only [sU,sR,xq,u7 p,u7 q];rfl
 |.or p q=>by simp only [sU,sR,xq,u7 p,u7 q];rfl
def zP:RP:=.mk 0 e0 0 0 []
def sq:Po→RO
 |.filter p=>.mk 1 (sU p) e0 0 []
 |.set f n=>.mk 2 zP f n []
 |.union a b=>.mk 3 zP e0 0 [sq a,sq b]
 |.seq a b=>.mk 4 zP e0 0 [sq a,sq b]
 |.star a=>.mk 5 zP e0 0 [sq a]
theorem AO (p:Pr):sj (sU p)=(sF p).cells:=by
 have:=congrArg T.cells (u7 p)
 rw [sD] at this
 exact this
theorem u9: ∀p:Po,tQ (sq p)=se p
 |.filter p=>by simp only [sq,tQ,wE,AO];rfl
 |.set f n=>rfl
 |.union a b=>by simp only [sq,tQ,wE,u9 a,u9 b];rfl
 |.seq a b=>by simp only [sq,tQ,wE,u9 a,u9 b];rfl
 |.star a=>by simp only [sq,tQ,wE,u9 a];rfl
theorem z6 (p:Po):.agg (sg (sq p))=se p:=by rw [← sM,u9]
theorem C3 {α:Type} {l:List α} (h:l.length=1): ∃x,l=[x]:=List.length_eq_one_iff.1 h
theorem Ac {α:Type} {l:List α} (h:l.length=2): ∃x y,l=[x,y]:=by
 match l,h with
 |[x,y],_=>exact ⟨x,y,rfl⟩
theorem zi {f:ByteArray} {n m:Int} (h:wN f n m=true):f=e0∧n=0∧m=0:=by
 simp only [wN,Bool.and_eq_true,beq_iff_eq,uO] at h
 exact ⟨h.1.1,h.1.2,h.2⟩
theorem AS (N:Nat): ∀r:RP,r.nodes≤N→tw r=true→ ∃p,r=sU p:=by
 induction N with
 |zero=>intro r h;have:=r.tS;omega
 |succ N ih=>
  rintro ⟨k,f,n,m,l⟩ hr hf
  simp only [RP.nodes] at hr
  simp only [tw,Bool.and_eq_true,beq_iff_eq] at hf
  obtain ⟨⟨h1,h2⟩,h3⟩:=hf
  unfold okP at h1
  split at h1
  ·rename_i hk
   obtain ⟨rfl,rfl,rfl⟩:=zi h1
   rcases hk with rfl|rfl
   ·have:l=[]:=List.length_eq_zero_iff.1 h2
    subst this;exact ⟨.tt,rfl⟩
   ·have:l=[]:=List.length_eq_zero_iff.1 h2
    subst this;exact ⟨.ff,rfl⟩
  split at h1
  ·rename_i hk;subst hk
   simp [w4] at h1
   have:l=[]:=List.length_eq_zero_iff.1 h2
   subst this
   refine ⟨.eq f n.toNat,?_⟩
   simp only [sU]
   rw [Int.toNat_of_nonneg (by omega),h1.2]
  split at h1
  ·rename_i hk;subst hk
   simp [w4] at h1
   have:l=[]:=List.length_eq_zero_iff.1 h2
   subst this
   refine ⟨.pre f n.toNat m.toNat,?_⟩
   simp only [sU]
   rw [Int.toNat_of_nonneg (by omega),Int.toNat_of_nonneg (by omega)]
  split at h1
  ·rename_i hk;subst hk
   simp at h1
   have:l=[]:=List.length_eq_zero_iff.1 h2
   subst this
   refine ⟨.rng f n.toNat m.toNat,?_⟩
   simp only [sU]
   rw [Int.toNat_of_nonneg (by omega),Int.toNat_of_nonneg (by omega)]
  split at h1
  ·rename_i hk
   obtain ⟨rfl,rfl,rfl⟩:=zi h1
   rcases hk with rfl|rfl|rfl
   ·obtain ⟨x,rfl⟩:=C3 h2
    simp only [sX,Bool.and_true] at h3
    simp only [sG] at hr
    obtain ⟨p,rfl⟩:=ih x (by omega) h3
    exact ⟨.not p,rfl⟩
   ·obtain ⟨x,y,rfl⟩:=Ac h2
    simp only [sX,Bool.and_true,Bool.and_eq_true] at h3
    simp only [sG] at hr
    obtain ⟨p,rfl⟩:=ih x (by omega) h3.1
    obtain ⟨q,rfl⟩:=ih y (by omega) h3.2
    exact ⟨.and p q,rfl⟩
   ·obtain ⟨x,y,rfl⟩:=Ac h2
    simp only [sX,Bool.and_true,Bool.and_eq_true] at h3
    simp only [sG] at hr
    obtain ⟨p,rfl⟩:=ih x (by omega) h3.1
    obtain ⟨q,rfl⟩:=ih y (by omega) h3.2
    exact ⟨.or p q,rfl⟩
  split at h1
  ·rename_i hk;subst hk
   simp only [Bool.and_eq_true,uO] at h1
   obtain ⟨⟨⟨rfl,_⟩,_⟩,_⟩:=h1
   have:l=[]:=List.length_eq_zero_iff.1 h2
   subst this
   exact ⟨.time n m,rfl⟩
  ·cases h1
theorem yE {p:RP} (h:vm p=true):p=zP:=by
 obtain ⟨k,f,n,m,a⟩:=p
 simp only [vm,Bool.and_eq_true,beq_iff_eq,uO,List.length_eq_zero_iff] at h
 obtain ⟨⟨⟨⟨rfl,rfl⟩,rfl⟩,rfl⟩,rfl⟩:=h
 rfl
theorem zj {f:ByteArray} {n:Int} (h:wO f n=true):f=e0∧n=0:=by
 simpa only [wO,Bool.and_eq_true,beq_iff_eq,uO] using h
theorem AR (N:Nat): ∀r:RO,r.wt≤N→tj r=true→ ∃p,r=sq p:=by
 induction N with
 |zero=>intro r h;have:=r.uE;omega
 |succ N ih=>
  rintro ⟨k,p,f,n,l⟩ hr hf
  simp only [RO.wt] at hr
  simp only [tj,Bool.and_eq_true,beq_iff_eq] at hf
  obtain ⟨⟨h1,h2⟩,h3⟩:=hf
  unfold okO at h1
  split at h1
  ·rename_i hk;subst hk
   rw [Bool.and_eq_true] at h1
   obtain ⟨hp,hn⟩:=h1
   obtain ⟨rfl,rfl⟩:=zj hn
   obtain ⟨q,rfl⟩:=AS _ p (Nat.le_refl _) hp
   have:l=[]:=List.length_eq_zero_iff.1 h2
   subst this
   exact ⟨.filter q,rfl⟩
  split at h1
  ·rename_i hk;subst hk
   simp only [Bool.and_eq_true,decide_eq_true_eq] at h1
   obtain ⟨⟨⟨_,he⟩,h0⟩,_⟩:=h1
   obtain rfl:=yE he
   have:l=[]:=List.length_eq_zero_iff.1 h2
   subst this
   refine ⟨.set f n.toNat,?_⟩
   simp only [sq]
   rw [Int.toNat_of_nonneg h0]
  split at h1
  ·rename_i hk
   rw [Bool.and_eq_true] at h1
   obtain ⟨he,hn⟩:=h1
   obtain rfl:=yE he
   obtain ⟨rfl,rfl⟩:=zj hn
   rcases hk with rfl|rfl|rfl
   ·obtain ⟨x,y,rfl⟩:=Ac h2
    simp only [sW,Bool.and_true,Bool.and_eq_true] at h3
    simp only [s9] at hr
    obtain ⟨p,rfl⟩:=ih x (by omega) h3.1
    obtain ⟨q,rfl⟩:=ih y (by omega) h3.2
    exact ⟨.union p q,rfl⟩
   ·obtain ⟨x,y,rfl⟩:=Ac h2
    simp only [sW,Bool.and_true,Bool.and_eq_true] at h3
    simp only [s9] at hr
    obtain ⟨p,rfl⟩:=ih x (by omega) h3.1
    obtain ⟨q,rfl⟩:=ih y (by omega) h3.2
    exact ⟨.seq p q,rfl⟩
   ·obtain ⟨x,rfl⟩:=C3 h2
    simp only [sW,Bool.and_true] at h3
    simp only [s9] at hr
    obtain ⟨p,rfl⟩:=ih x (by omega) h3
    exact ⟨.star p,rfl⟩
  ·cases h1
theorem Bn {c:Prop} [Decidable c] (h:(if c then (1:Int) else 0)=0): ¬c:=fun hc=>by rw [if_pos hc] at h;cases h
theorem wh {l:List Fd}: ∀p:Pr,tw (sU p)=true→(∀ x∈sJ (sU p),va l x=0)→POk l p
 |.tt,_,_=>trivial
 |.ff,_,_=>trivial
 |.time _ _,_,_=>trivial
 |.eq f n,_,h=>by
  have:=h _ (by simp only [sU,sJ];exact List.mem_cons_self)
  simp only [va] at this
  rw [if_pos (.inl trivial)] at this
  cases hF:findF l f with
  |none=>rw [hF] at this;cases this
  |some F=>
   rw [hF] at this
   simp only at this
   have hc:=Bn this
   have:=Nat.two_pow_pos F.w
   refine ⟨F,hF,?_⟩
   simp at hc;omega
 |.pre f n m,_,h=>by
  have:=h _ (by simp only [sU,sJ];exact List.mem_cons_self)
  simp only [va] at this
  rw [if_pos (.inr (.inl trivial))] at this
  cases hF:findF l f with
  |none=>rw [hF] at this;cases this
  |some F=>
   rw [hF] at this
   simp only at this
   have hc:=Bn this
   have:=Nat.two_pow_pos F.w
   refine ⟨F,hF,?_⟩
   simp at hc;omega
 |.rng f n m,hf,h=>by
  have:=h _ (by simp only [sU,sJ];exact List.mem_cons_self)
  simp only [va] at this
  rw [if_pos (.inr (.inr trivial))] at this
  have hnm:n≤m:=by
   simp [sU,tw,okP] at hf
   omega
  cases hF:findF l f with
  |none=>rw [hF] at this;cases this
  |some F=>
   rw [hF] at this
   simp only at this
   have hc:=Bn this
   have:=Nat.two_pow_pos F.w
   refine ⟨F,hF,hnm,?_⟩
   simp at hc;omega
 |.not p,hf,h=>by
  simp only [sU,tw,sX,Bool.and_eq_true] at hf
  refine wh p hf.2.1 fun x hx=>h x ?_
  simp only [sU,sJ,sV,List.append_nil,List.mem_cons]
  exact .inr hx
 |.and p q,hf,h=>by
  simp only [sU,tw,sX,Bool.and_eq_true] at hf
  refine ⟨wh p hf.2.1 fun x hx=>h x ?_,wh q hf.2.2.1 fun x hx=>h x ?_⟩
  ·simp only [sU,sJ,sV,List.append_nil,List.mem_cons,List.mem_append];exact .inr (.inl hx)
  ·simp only [sU,sJ,sV,List.append_nil,List.mem_cons,List.mem_append];exact .inr (.inr hx)
 |.or p q,hf,h=>by
  simp only [sU,tw,sX,Bool.and_eq_true] at hf
  refine ⟨wh p hf.2.1 fun x hx=>h x ?_,wh q hf.2.2.1 fun x hx=>h x ?_⟩
  ·simp only [sU,sJ,sV,List.append_nil,List.mem_cons,List.mem_append];exact .inr (.inl hx)
  ·simp only [sU,sJ,sV,List.append_nil,List.mem_cons,List.mem_append];exact .inr (.inr hx)
theorem wg {l:List Fd}: ∀p:Po,tj (sq p)=true→(∀ x∈sE (sq p),uh l x=0)→OOk l p
 |.filter p,hf,h=>by
  have:=h _ (by simp only [sq,sE];exact List.mem_cons_self)
  simp only [uh,if_true,fitAll] at this
  simp [sq,tj,okO] at hf
  exact wh p hf.1.1.1 fun x hx=>vg this _ (List.mem_map.2 ⟨x,hx,rfl⟩)
 |.set f n,_,h=>by
  have:=h _ (by simp only [sq,sE];exact List.mem_cons_self)
  simp only [uh] at this
  rw [if_neg (by decide),if_pos trivial] at this
  cases hF:findF l f with
  |none=>rw [hF] at this;cases this
  |some F=>
   rw [hF] at this
   simp only at this
   split at this
   ·cases this
   ·rename_i hc
    have:=Nat.two_pow_pos F.w
    exact ⟨F,hF,by omega⟩
 |.union a b,hf,h=>by
  simp only [sq,tj,sW,Bool.and_eq_true] at hf
  refine ⟨wg a hf.2.1 fun x hx=>h x ?_,wg b hf.2.2.1 fun x hx=>h x ?_⟩
  ·simp only [sq,sE,sH,List.append_nil,List.mem_cons,List.mem_append];exact .inr (.inl hx)
  ·simp only [sq,sE,sH,List.append_nil,List.mem_cons,List.mem_append];exact .inr (.inr hx)
 |.seq a b,hf,h=>by
  simp only [sq,tj,sW,Bool.and_eq_true] at hf
  refine ⟨wg a hf.2.1 fun x hx=>h x ?_,wg b hf.2.2.1 fun x hx=>h x ?_⟩
  ·simp only [sq,sE,sH,List.append_nil,List.mem_cons,List.mem_append];exact .inr (.inl hx)
  ·simp only [sq,sE,sH,List.append_nil,List.mem_cons,List.mem_append];exact .inr (.inr hx)
 |.star a,hf,h=>by
  simp only [sq,tj,sW,Bool.and_eq_true] at hf
  refine wg a hf.2.1 fun x hx=>h x ?_
  simp only [sq,sE,sH,List.append_nil,List.mem_cons];exact .inr hx
theorem CW {r:RO} (h:uz r=0):r.size≤200∧r.deep≤20∧tj r=true:=by
 unfold uz yQ yy at h
 by_cases hc:r.size≤200∧r.deep≤20
 ·rw [if_pos hc,if_pos rfl] at h
  cases hb:tj r with
  |true=>exact ⟨hc.1,hc.2,rfl⟩
  |false=>rw [hb] at h;cases h
 ·rw [if_neg hc] at h;cases h
theorem Ga {l:List Fd} {r:RO} (h:xf l r=0):uz r=0∧ ∀x∈sE r,uh l x=0:=by
 unfold xf at h
 split at h
 ·rename_i hc;exact absurd h hc
 ·rename_i hc
  exact ⟨Decidable.not_not.1 hc,fun x hx=>vg h _ (List.mem_map.2 ⟨x,hx,rfl⟩)⟩
theorem BL {l:List Fd} {r:RO} (h:xf l r=0): ∃p,r=sq p∧OOk l p:=by
 obtain ⟨h1,h2⟩:=Ga h
 obtain ⟨_,_,h3⟩:=CW h1
 obtain ⟨p,rfl⟩:=AR _ r (Nat.le_refl _) h3
 exact ⟨p,rfl,wg p h3 h2⟩
end Go.MM
end
section
namespace Go.MM
open Go Go.DL Go.Proofs
abbrev eo (p:Po):T:=.agg (sg (sq p))
theorem DX (p:Po):eo p=se p:=z6 p
structure Sm (r:RO):Prop where
 wt:r.wt<2^40
 nm:uU r
theorem Bt {l:List RF} {h:List Int} {tick:Int} {rs:List RO} (hh:h.length=10) (hr:xi l h tick rs=true):
  Checked l∧HOk h∧0≤tick∧tick≤1073741824∧ ∀r∈rs,xf (l.map RF.fd) r=0∧r.cnt≤40∧r.tN≤2∧wW r.tN r.vO=true:=by
 simp only [xi,preB,Bool.and_eq_true,beq_iff_eq,decide_eq_true_eq,List.all_eq_true,vt] at hr
 obtain ⟨⟨⟨⟨h1,h2⟩,h3⟩,h4⟩,h5⟩:=hr
 exact ⟨x7 h1,⟨hh,h2⟩,h3,h4,fun r hm=>by obtain ⟨⟨⟨a,b⟩,c⟩,d⟩:=h5 r hm;exact ⟨a,b,c,d⟩⟩
end Go.MM
end
section
namespace Go.MM
open Go Go.DL Go.Proofs
inductive Reach (R:List Int→List Int→Prop):List Int→List Int→Prop
 |refl (h:List Int):Reach R h h
 |step {h y z:List Int} (a:Reach R h y) (b:R y z):Reach R h z
def Den (l:List Fd) (tick:Int):Po→List Int→List Int→Prop
 |.filter p,h,z=>holds l tick h p=true∧z=h
 |.set f n,h,z=>z=sB (fld l f) h n
 |.union a b,h,z=>Den l tick a h z∨Den l tick b h z
 |.seq a b,h,z=> ∃y,Den l tick a h y∧Den l tick b y z
 |.star a,h,z=>Reach (Den l tick a) h z
theorem vo {g:List Int→Option (List (List Int))} (hg: ∀h s,HOk h→g h=some s→SOk s): ∀{hs out s:List (List Int)},tL hs→SOk out→image g hs out=some s→
  (∀ z,z∈s↔z∈out∨ ∃y∈hs, ∃t,g y=some t∧z∈t)∧ ∀y∈hs, ∃t,g y=some t
 |[],out,s,_,ho,h=>by cases h;simp
 |x::hs,out,s,hx,ho,h=>by
  unfold image at h
  cases hgx:g x with
  |none=>rw [hgx] at h;cases h
  |some a=>
   rw [hgx] at h
   simp only at h
   have ha:=hg x a (hx x (by simp)) hgx
   cases hsm:small (mrg out a) with
   |none=>rw [hsm] at h;cases h
   |some out'=>
    rw [hsm] at h
    simp only at h
    obtain ⟨h1,rfl⟩:=um (tq ho.ok.len ha.ok.len ho.srt ha.srt) (tu ho.ok ha.ok) hsm
    obtain ⟨k1,k2⟩:=vo hg (fun y hy=>hx y (by simp [hy])) h1 h
    refine ⟨fun z=>?_,fun y hy=>?_⟩
    ·rw [k1,tn ho.ok.len ha.ok.len]
     constructor
     ·rintro ((hz|hz)|⟨y,hy,t,ht,hz⟩)
      ·exact .inl hz
      ·exact .inr ⟨x,by simp,a,hgx,hz⟩
      ·exact .inr ⟨y,by simp [hy],t,ht,hz⟩
     ·rintro (hz|⟨y,hy,t,ht,hz⟩)
      ·exact .inl (.inl hz)
      ·rcases List.mem_cons.1 hy with rfl|hy
       ·rw [hgx] at ht;cases ht;exact .inl (.inr hz)
       ·exact .inr ⟨y,hy,t,ht,hz⟩
    ·rcases List.mem_cons.1 hy with rfl|hy
     ·exact ⟨a,hgx⟩
     ·exact k2 y hy
theorem ym {g:List Int→Option (List (List Int))} (hg: ∀h s,HOk h→g h=some s→SOk s) {D:List Int→List Int→Prop} (hD: ∀y t,HOk y→g y=some t→ ∀z,z∈t↔D y z) {h0:List Int}:
  ∀{n:Nat} {all last:List (List Int)} {r:Nat} {s:List (List Int)} {k:Nat},SOk all→SOk last→(∀ z∈all,Reach D h0 z)→(∀ z∈last,z∈all)→(∀ y∈all, ¬y∈last→ ∀z,D y z→z∈all)→
   rounds (fun s=>image g s []) n all last r=some (s,k)→(∀ z∈s,Reach D h0 z)∧(∀ z∈all,z∈s)∧ ∀y∈s, ∀z,D y z→z∈s
 |0,all,last,r,s,k,_,_,_,_,_,h=>by cases h
 |n+1,all,last,r,s,k,ha,hl,i1,i2,i3,h=>by
  unfold rounds at h
  cases him:image g last [] with
  |none=>simp only [him] at h;cases h
  |some next=>
   simp only [him] at h
   have hn:=uI hg hl.ok tk him
   obtain ⟨m1,m2⟩:=vo hg hl.ok tk him
   have hf:=wF (fun x=> !all.contains x) hn
   generalize hfr:next.filter (fun x=> !all.contains x)=fresh at *
   have mf: ∀z,z∈fresh↔z∈next∧ ¬z∈all:=fun z=>by rw [← hfr];simp
   cases hsm:small (mrg all fresh) with
   |none=>rw [hsm] at h;cases h
   |some all'=>
    rw [hsm] at h
    simp only at h
    obtain ⟨a1,rfl⟩:=um (tq ha.ok.len hf.ok.len ha.srt hf.srt) (tu ha.ok hf.ok) hsm
    have mm: ∀z,z∈mrg all fresh↔z∈all∨z∈fresh:=fun z=>tn ha.ok.len hf.ok.len
    have stepL: ∀y∈last, ∀z,D y z→z∈mrg all fresh:=fun y hy z hz=>by
     obtain ⟨t,ht⟩:=m2 y hy
     have hzt:=(hD y t (hl.ok y hy) ht z).2 hz
     rw [mm]
     by_cases hza:z∈all
     ·exact .inl hza
     ·exact .inr ((mf z).2 ⟨(m1 z).2 (.inr ⟨y,hy,t,ht,hzt⟩),hza⟩)
    have nextR: ∀z∈next,Reach D h0 z:=fun z hz=>by
     rcases (m1 z).1 hz with hz|⟨y,hy,t,ht,hzt⟩
     ·cases hz
     ·exact .step (i1 y (i2 y hy)) ((hD y t (hl.ok y hy) ht z).1 hzt)
    have allR: ∀z∈mrg all fresh,Reach D h0 z:=fun z hz=>by
     rcases (mm z).1 hz with hz|hz
     ·exact i1 z hz
     ·exact nextR z ((mf z).1 hz).1
    have clos: ∀y∈mrg all fresh, ¬y∈fresh→ ∀z,D y z→z∈mrg all fresh:=fun y hy hnf z hz=>by
     rcases (mm y).1 hy with hya|hyf
     ·by_cases hyl:y∈last
      ·exact stepL y hyl z hz
      ·exact (mm z).2 (.inl (i3 y hya hyl z hz))
     ·exact absurd hyf hnf
    split at h
    ·rename_i he
     cases h
     exact ⟨allR,fun z hz=>(mm z).2 (.inl hz),fun y hy z hz=>clos y hy (by rw [he];simp) z hz⟩
    ·obtain ⟨k1,k2,k3⟩:=ym hg hD a1 hf allR (fun z hz=>(mm z).2 (.inr hz)) clos h
     exact ⟨k1,fun z hz=>k2 z ((mm z).2 (.inl hz)),k3⟩
theorem Bs {D:List Int→List Int→Prop} {s:List (List Int)} (hc: ∀y∈s, ∀z,D y z→z∈s) {h z:List Int} (hh:h∈s) (hr:Reach D h z):z∈s:=by
 induction hr with
 |refl=>exact hh
 |step _ r ih=>exact hc _ ih _ r
theorem den {l:List Fd} (hl:LOk l) {tick:Int}: ∀{p:Po},OOk l p→ ∀{h:List Int} {s:List (List Int)},HOk h→gives l tick p h=some s→ ∀z,z∈s↔Den l tick p h z
 |.filter p,_,h,s,hh,e,z=>by
  simp only [gives,Option.some.injEq] at e
  subst e
  simp only [Den]
  split
  ·rename_i hc;simp [hc]
  ·rename_i hc;simp [hc]
 |.set f n,_,h,s,hh,e,z=>by
  simp only [gives,Option.some.injEq] at e
  subst e
  simp [Den]
 |.union a b,ho,h,s,hh,e,z=>by
  simp only [gives] at e
  cases ha:gives l tick a h with
  |none=>rw [ha] at e;cases e
  |some x=>
   cases hb:gives l tick b h with
   |none=>rw [ha,hb] at e;cases e
   |some y=>
    rw [ha,hb] at e
    simp only at e
    have sx:=tc hl ho.1 hh ha
    have sy:=tc hl ho.2 hh hb
    obtain ⟨_,rfl⟩:=um (tq sx.ok.len sy.ok.len sx.srt sy.srt) (tu sx.ok sy.ok) e
    rw [tn sx.ok.len sy.ok.len,den hl ho.1 hh ha,den hl ho.2 hh hb]
    rfl
 |.seq a b,ho,h,s,hh,e,z=>by
  simp only [gives] at e
  cases ha:gives l tick a h with
  |none=>rw [ha] at e;cases e
  |some x=>
   rw [ha] at e
   simp only at e
   have sx:=tc hl ho.1 hh ha
   obtain ⟨m1,m2⟩:=vo (fun h s hh e=>tc hl ho.2 hh e) sx.ok tk e
   rw [m1]
   simp only [Den,List.not_mem_nil,false_or]
   constructor
   ·rintro ⟨y,hy,t,ht,hz⟩
    exact ⟨y,(den hl ho.1 hh ha y).1 hy,(den hl ho.2 (sx.ok y hy) ht z).1 hz⟩
   ·rintro ⟨y,hy,hz⟩
    have hy:=(den hl ho.1 hh ha y).2 hy
    obtain ⟨t,ht⟩:=m2 y hy
    exact ⟨y,hy,t,ht,(den hl ho.2 (sx.ok y hy) ht z).2 hz⟩
 |.star a,ho,h,s,hh,e,z=>by
  simp only [gives] at e
  obtain ⟨⟨s',k⟩,e1,rfl⟩:=Option.map_eq_some_iff.1 e
  have ho':OOk l a:=ho
  obtain ⟨k1,k2,k3⟩:=ym (g:=gives l tick a) (D:=Den l tick a) (fun h s hh e=>tc hl ho' hh e) (fun y t hy ht z=>den hl ho' hy ht z) (h0:=h) (tG hh) (tG hh)
   (fun z hz=>by rw [List.mem_singleton.1 hz];exact .refl _) (fun z hz=>hz) (fun y hy hn=>absurd hy hn) e1
  exact ⟨k1 z,fun hr=>Bs k3 (k2 h (by simp)) hr⟩
theorem CK {a b:List (List Int)} (ha:SOk a) (hb:SOk b) (h: ∀z,z∈a↔z∈b):a=b:=by
 have key: ∀(a b:List (List Int)),Srt a→Srt b→tL a→tL b→(∀ z,z∈a↔z∈b)→a=b:=by
  intro a
  induction a with
  |nil=>
   intro b _ _ _ _ h
   cases b with
   |nil=>rfl
   |cons y b=>have:=(h y).2 (by simp);cases this
  |cons x a ih=>
   intro b sa sb oa ob h
   cases b with
   |nil=>have:=(h x).1 (by simp);cases this
   |cons y b=>
    have lx:=(oa x (by simp)).len
    have ly:=(ob y (by simp)).len
    have irr: ∀v:List Int, ¬su v v<0:=fun v hv=>by
     have:su v v=0:=uL v
     omega
    have exy:x=y:=by
     rcases List.mem_cons.1 ((h x).1 (by simp)) with e|hxb
     ·exact e
     ·rcases List.mem_cons.1 ((h y).2 (by simp)) with e|hya
      ·exact e.symm
      ·have h1:=List.rel_of_pairwise_cons sb hxb
       have h2:=List.rel_of_pairwise_cons sa hya
       exact absurd (uo (lx.trans ly.symm) (ly.trans lx.symm) h2 h1) (irr x)
    subst exy
    congr 1
    refine ih b sa.of_cons sb.of_cons (fun z hz=>oa z (by simp [hz])) (fun z hz=>ob z (by simp [hz])) fun z=>?_
    constructor
    ·intro hz
     rcases List.mem_cons.1 ((h z).1 (by simp [hz])) with rfl|hz'
     ·exact absurd (List.rel_of_pairwise_cons sa hz) (irr z)
     ·exact hz'
    ·intro hz
     rcases List.mem_cons.1 ((h z).2 (by simp [hz])) with rfl|hz'
     ·exact absurd (List.rel_of_pairwise_cons sb hz) (irr z)
     ·exact hz'
 exact key a b ha.srt hb.srt ha.ok hb.ok h
end Go.MM
end
section
namespace Go.MM
open Go Go.DL Go.Proofs
theorem Cz {x s w n:Nat} (hn:n<2^w):tX (tK x s w n) s w=n:=by
 refine Nat.eq_of_testBit_eq fun j=>?_
 rw [vb,tC hn]
 by_cases h:j<w
 ·rw [if_neg (by omega),if_pos (by omega)]
  simp [h]
 ·have:n.testBit j=false:=Nat.testBit_lt_two_pow (Nat.lt_of_lt_of_le hn (Nat.pow_le_pow_right (by decide) (by omega)))
  simp [h,this]
theorem CF {x s w m n:Nat} (hm:m<2^w) (hn:n<2^w):tK (tK x s w m) s w n=tK x s w n:=by
 refine Nat.eq_of_testBit_eq fun j=>?_
 rw [tC hn,tC hm,tC hn]
 split
 ·rfl
 ·split
  ·rfl
  ·rfl
theorem CE (x s w:Nat):tK x s w (tX x s w)=x:=(CL x s w).symm
theorem Bm {x s w n s' w':Nat} (hn:n<2^w) (h:s+w≤s'∨s'+w'≤s):tX (tK x s w n) s' w'=tX x s' w':=by
 refine Nat.eq_of_testBit_eq fun j=>?_
 rw [vb,vb,tC hn]
 by_cases hj:j<w'
 ·rcases h with h|h
  ·rw [if_neg (by omega),if_neg (by omega)]
  ·rw [if_pos (by omega)]
 ·simp [hj]
theorem put_comm {x s w n s' w' m:Nat} (hn:n<2^w) (hm:m<2^w') (h:s+w≤s'∨s'+w'≤s):tK (tK x s w n) s' w' m=tK (tK x s' w' m) s w n:=by
 refine Nat.eq_of_testBit_eq fun j=>?_
 rw [tC hm,tC hn,tC hn,tC hm]
 rcases h with h|h
 ·by_cases h1:j<s'
  ·rw [if_pos h1,if_pos h1]
  ·rw [if_neg h1,if_neg h1]
   by_cases h2:j<s'+w'
   ·rw [if_pos h2,if_pos h2,if_neg (by omega),if_neg (by omega)]
   ·rw [if_neg h2,if_neg h2]
 ·by_cases h1:j<s
  ·rw [if_pos h1,if_pos h1]
  ·rw [if_neg h1,if_neg h1]
   by_cases h2:j<s+w
   ·rw [if_pos h2,if_pos h2,if_neg (by omega),if_neg (by omega)]
   ·rw [if_neg h2,if_neg h2]
theorem uD {h:List Int} {i n:Nat} (hi:i<h.length):wd (h.set i (n:Int)) i=n:=by simp [wd,hi]
theorem vP {h:List Int} {i j:Nat} {n:Int} (hij:i≠j):wd (h.set i n) j=wd h j:=by simp [wd,hij]
theorem AU {f:Fd} (hf:FOk f) {h:List Int} (hl:h.length=10) {n:Nat} (hn:n<2^f.w):sL f (sB f h n)=n:=by
 have:=hf.i
 unfold sL sB
 rw [uD (by omega),Cz hn]
theorem Bc {f:Fd} (hf:FOk f) {h:List Int} (hl:h.length=10) {m n:Nat} (hm:m<2^f.w) (hn:n<2^f.w):sB f (sB f h m) n=sB f h n:=by
 have:=hf.i
 unfold sB
 rw [uD (by omega),CF hm hn,List.set_set]
theorem Bb {f:Fd} (hf:FOk f) {h:List Int} (hh:HOk h):sB f h (sL f h)=h:=by
 have hi:=hf.i
 unfold sB sL
 rw [CE]
 have hlt:f.i<h.length:=by rw [hh.len];exact hi
 have e:((wd h f.i:Nat):Int)=h[f.i]:=(hh.get hi).symm
 rw [e,List.set_getElem_self]
def tE (f g:Fd):Prop:=f.a+f.w≤g.a∨g.a+g.w≤f.a
theorem tE.bits {f g:Fd} (hf:FOk f) (hg:FOk g) (h:tE f g) (hi:f.i=g.i):f.s+f.w≤g.s∨g.s+g.w≤f.s:=by
 have:=hf.w2;have:=hg.w2;have:=hf.a;have:=hg.a
 unfold tE at h
 unfold Fd.i at hi
 unfold Fd.s
 omega
theorem wH {f g:Fd} (hf:FOk f) (hg:FOk g) (ha:tE f g) {h:List Int} (hl:h.length=10) {n:Nat} (hn:n<2^f.w):sL g (sB f h n)=sL g h:=by
 have:=hf.i
 unfold sL sB
 by_cases hi:f.i=g.i
 ·rw [← hi,uD (by omega)]
  exact Bm hn (ha.bits hf hg hi)
 ·rw [vP hi]
theorem Ba {f g:Fd} (hf:FOk f) (hg:FOk g) (ha:tE f g) {h:List Int} (hl:h.length=10) {n m:Nat} (hn:n<2^f.w) (hm:m<2^g.w):sB g (sB f h n) m=sB f (sB g h m) n:=by
 have h1:=hf.i
 have h2:=hg.i
 unfold sB
 by_cases hi:f.i=g.i
 ·rw [← hi,uD (by omega),uD (by omega),put_comm hn hm (ha.bits hf hg hi),List.set_set,List.set_set]
 ·rw [vP hi,vP (Ne.symm hi),List.set_comm _ _ hi]
end Go.MM
end
section
namespace Go.MM
open Go Go.DL Go.Proofs
def si (k:Nat):Fd:={name:=⟨#[]⟩,a:=k,w:=1 }
theorem tO {k:Nat} (h:k<160):FOk (si k):=⟨h,Nat.le_refl 1,by simp only [si];omega⟩
theorem AL (k:Nat) (h:List Int):sL (si k) h<2:=Cy (si k) h
def sv (k:Nat) (h:List Int):List Int:=sB (si k) h (1 - sL (si k) h)
theorem wm (k:Nat) (h:List Int):1 - sL (si k) h<2^(si k).w:=by
 have:2^(si k).w=2:=rfl
 omega
theorem tF {k:Nat} (hk:k<160) {h:List Int} (hh:HOk h):HOk (sv k h):=hh.set (tO hk) (wm k h)
theorem flip_flip {k:Nat} (hk:k<160) {h:List Int} (hh:HOk h):sv k (sv k h)=h:=by
 unfold sv
 rw [AU (tO hk) hh.len (wm k h),Bc (tO hk) hh.len (wm k h) (by have:=AL k h;show 1 - (1 - _)<2^1;omega)]
 have e:1 - (1 - sL (si k) h)=sL (si k) h:=by have:=AL k h;omega
 rw [e,Bb (tO hk) hh]
theorem xV {k:Nat} (hk:k<160) {F:Fd} (hF:FOk F) (ha:tE (si k) F) {h:List Int} (hl:h.length=10):sL F (sv k h)=sL F h:=
 wH (tO hk) hF ha hl (wm k h)
theorem Bk {k:Nat} (hk:k<160) {F:Fd} (hF:FOk F) (ha:tE (si k) F) {h:List Int} (hl:h.length=10) {n:Nat} (hn:n<2^F.w):sB F (sv k h) n=sv k (sB F h n):=by
 unfold sv
 rw [Ba (tO hk) hF ha hl (wm k h) hn,wH hF (tO hk) ha.symm hl hn]
theorem outside {k:Nat} {F:Fd} (h: ¬(F.a≤k∧k<F.a+F.w)):tE (si k) F:=by
 unfold tE si;simp only;omega
def xB (l:List Fd) (b:Fd):Pr→Prop
 |.tt|.ff|.time _ _=>True
 |.eq f _|.pre f _ _|.rng f _ _=>tE b (fld l f)
 |.not p=>xB l b p
 |.and p q|.or p q=>xB l b p∧xB l b q
def keeps (l:List Fd) (b:Fd):Po→Prop
 |.filter _=>True
 |.set f _=>tE b (fld l f)
 |.union p q|.seq p q=>keeps l b p∧keeps l b q
 |.star p=>keeps l b p
def free (l:List Fd) (b:Fd):Po→Prop
 |.filter p=>xB l b p
 |.set f _=>tE b (fld l f)
 |.union p q|.seq p q=>free l b p∧free l b q
 |.star p=>free l b p
theorem uu {l:List Fd} (hl:LOk l) {k:Nat} (hk:k<160) {tick:Int} {h:List Int} (hh:HOk h): ∀{p:Pr},POk l p→xB l (si k) p→holds l tick (sv k h) p=holds l tick h p
 |.tt,_,_=>rfl
 |.ff,_,_=>rfl
 |.time _ _,_,_=>rfl
 |.eq f n,⟨F,hF,_⟩,ht=>by
  have:=xV hk (hl.find hF) (by rw [← tA hF];exact ht) hh.len
  simp only [holds];rw [tA hF,this]
 |.pre f n m,⟨F,hF,_⟩,ht=>by
  have:=xV hk (hl.find hF) (by rw [← tA hF];exact ht) hh.len
  simp only [holds];rw [tA hF,this]
 |.rng f n m,⟨F,hF,_⟩,ht=>by
  have:=xV hk (hl.find hF) (by rw [← tA hF];exact ht) hh.len
  simp only [holds];rw [tA hF,this]
 |.not p,hp,ht=>by simp only [holds];rw [uu hl hk hh (p:=p) hp ht]
 |.and p q,hp,ht=>by simp only [holds];rw [uu hl hk hh (p:=p) hp.1 ht.1,uu hl hk hh (p:=q) hp.2 ht.2]
 |.or p q,hp,ht=>by simp only [holds];rw [uu hl hk hh (p:=p) hp.1 ht.1,uu hl hk hh (p:=q) hp.2 ht.2]
theorem yO {R:List Int→List Int→Prop} {P:List Int→Prop} {h z:List Int} (h0:P h) (hs: ∀y z,P y→R y z→P z) (d:Reach R h z):P z:=by
 induction d with
 |refl=>exact h0
 |step _ r ih=>exact hs _ _ ih r
theorem vL {l:List Fd} (hl:LOk l) {tick:Int}: ∀{p:Po},OOk l p→ ∀{h z:List Int},HOk h→Den l tick p h z→HOk z
 |.filter p,_,h,z,hh,d=>by rw [d.2];exact hh
 |.set f n,⟨F,hF,hn⟩,h,z,hh,d=>by
  rw [show z=_ from d,tA hF]
  exact hh.set (hl.find hF) hn
 |.union p q,ho,h,z,hh,d=>d.elim (vL hl (p:=p) ho.1 hh) (vL hl (p:=q) ho.2 hh)
 |.seq p q,ho,h,z,hh,⟨y,d1,d2⟩=>vL hl (p:=q) ho.2 (vL hl (p:=p) ho.1 hh d1) d2
 |.star p,ho,h,z,hh,d=>by
  exact yO (P:=HOk) hh (fun y z hy r=>vL hl (p:=p) ho hy r) d
theorem uN {l:List Fd} (hl:LOk l) {k:Nat} (hk:k<160) {tick:Int}: ∀{p:Po},OOk l p→keeps l (si k) p→ ∀{h z:List Int},HOk h→Den l tick p h z→sL (si k) z=sL (si k) h
 |.filter p,_,_,h,z,hh,d=>by rw [d.2]
 |.set f n,⟨F,hF,hn⟩,ks,h,z,hh,d=>by
  have ks:tE (si k) (fld l f):=ks
  rw [tA hF] at ks
  rw [show z=_ from d,tA hF]
  exact wH (hl.find hF) (tO hk) ks.symm hh.len hn
 |.union p q,ho,ks,h,z,hh,d=>d.elim (uN hl hk (p:=p) ho.1 ks.1 hh) (uN hl hk (p:=q) ho.2 ks.2 hh)
 |.seq p q,ho,ks,h,z,hh,⟨y,d1,d2⟩=>(uN hl hk (p:=q) ho.2 ks.2 (vL hl (p:=p) ho.1 hh d1) d2).trans (uN hl hk (p:=p) ho.1 ks.1 hh d1)
 |.star p,ho,ks,h,z,hh,d=>by
  exact (yO (P:=fun y=>HOk y∧sL (si k) y=sL (si k) h) ⟨hh,rfl⟩ (fun y z hy r=>⟨vL hl (p:=p) ho hy.1 r,(uN hl hk (p:=p) ho ks hy.1 r).trans hy.2⟩) d).2
theorem xu: ∀{a:List (List Int)},a.Nodup→ ∀{t:List (List Int)},(∀ z∈a,z∈t)→a.length≤t.length
 |[],_,_,_=>Nat.zero_le _
 |x::a,hn,t,h=>by
  have hn:=List.nodup_cons.1 hn
  have hx:=h x (by simp)
  have:=xu hn.2 (t:=t.erase x) fun z hz=>(List.mem_erase_of_ne (fun (e:z=x)=>hn.1 (by rw [← e];exact hz))).2 (h z (by simp [hz]))
  rw [List.length_erase_of_mem hx] at this
  have:=List.length_pos_of_mem hx
  simp only [List.length_cons];omega
structure td (k:Nat) (s t:List (List Int)):Prop where
 s1:Srt s
 t1:Srt t
 s2:tL s
 t2:tL t
 mem: ∀z,HOk z→(z∈s↔sv k z∈t)
theorem td.flip {k:Nat} (hk:k<160) {s t:List (List Int)} (h:td k s t):td k t s:=
 ⟨h.t1,h.s1,h.t2,h.s2,fun z hz=>by have:=h.mem (sv k z) (tF hk hz);rw [flip_flip hk hz] at this;exact this.symm⟩
theorem Srt.nodup {s:List (List Int)} (h:Srt s):s.Nodup:=List.Pairwise.imp (fun {a b} hab e=>by subst e;rw [uL] at hab;exact absurd hab (by decide)) h
theorem td.le {k:Nat} (hk:k<160) {s t:List (List Int)} (h:td k s t):s.length≤t.length:=by
 have:=xu (a:=s) h.s1.nodup (t:=t.map (sv k)) fun z hz=>List.mem_map.2 ⟨sv k z,(h.mem z (h.s2 z hz)).1 hz,flip_flip hk (h.s2 z hz)⟩
 rwa [List.length_map] at this
theorem td.len {k:Nat} (hk:k<160) {s t:List (List Int)} (h:td k s t):s.length=t.length:=Nat.le_antisymm (h.le hk) ((h.flip hk).le hk)
theorem td.mrg {k:Nat} {s t u v:List (List Int)} (h:td k s t) (g:td k u v):td k (mrg s u) (mrg t v):=
 ⟨tq h.s2.len g.s2.len h.s1 g.s1,tq h.t2.len g.t2.len h.t1 g.t1,tu h.s2 g.s2,tu h.t2 g.t2,fun z hz=>by rw [tn h.s2.len g.s2.len,tn h.t2.len g.t2.len,h.mem z hz,g.mem z hz]⟩
theorem td.nil (k:Nat):td k [] []:=⟨yC,yC,fun _ h=>(by cases h),fun _ h=>(by cases h),fun _ _=>(by simp)⟩
theorem td.one {k:Nat} (hk:k<160) {h:List Int} (hh:HOk h):td k [h] [sv k h]:=
 ⟨xA h,xA _,(tG hh).ok,(tG (tF hk hh)).ok,fun z hz=>by
  simp only [List.mem_singleton]
  exact ⟨fun e=>by rw [e],fun e=>by rw [← flip_flip hk hz,e,flip_flip hk hh]⟩⟩
def FR (k:Nat):Option (List (List Int))→Option (List (List Int))→Prop
 |some s,some t=>td k s t∧s.length≤256∧t.length≤256
 |none,none=>True
 |_,_=>False
theorem FR.small {k:Nat} (hk:k<160) {s t:List (List Int)} (h:td k s t):FR k (small s) (small t):=by
 have:=h.len hk
 unfold MM.small
 by_cases h1:s.length>256
 ·rw [if_pos h1,if_pos (by omega)];trivial
 ·rw [if_neg h1,if_neg (by omega)];exact ⟨h,by omega,by omega⟩
theorem FR.flip {k:Nat} (hk:k<160): ∀{a b:Option (List (List Int))},FR k a b→FR k b a
 |some _,some _,h=>⟨h.1.flip hk,h.2.2,h.2.1⟩
 |none,none,_=>trivial
 |some _,none,h=>h
 |none,some _,h=>h
theorem FR.sok {k:Nat} {s t:List (List Int)} (h:FR k (some s) (some t)):SOk s∧SOk t:=⟨⟨h.1.s1,h.1.s2,h.2.1⟩,⟨h.1.t1,h.1.t2,h.2.2⟩⟩
theorem yc {g:List Int→Option (List (List Int))} (hg: ∀h s,HOk h→g h=some s→SOk s) {T:List (List Int)} (hT:T.length≤256): ∀{hs out:List (List Int)},tL hs→SOk out→
  (∀ y∈hs, ∃t,g y=some t)→(∀ z,(z∈out∨ ∃y∈hs, ∃t,g y=some t∧z∈t)→z∈T)→ ∃s,image g hs out=some s
 |[],out,_,_,_,_=>⟨out,rfl⟩
 |x::hs,out,hx,ho,hd,ht=>by
  obtain ⟨a,ha⟩:=hd x (by simp)
  have oa:=hg x a (hx x (by simp)) ha
  have hs2:=tq ho.ok.len oa.ok.len ho.srt oa.srt
  have hle:(mrg out a).length≤256:=Nat.le_trans (xu hs2.nodup fun z hz=>ht z (((tn ho.ok.len oa.ok.len).1 hz).elim .inl fun h=>.inr ⟨x,by simp,a,ha,h⟩)) hT
  have hsm:small (mrg out a)=some (mrg out a):=by unfold small;rw [if_neg (by omega)]
  unfold image
  rw [ha]
  simp only
  rw [hsm]
  refine yc hg hT (fun y hy=>hx y (by simp [hy])) ⟨hs2,tu ho.ok oa.ok,hle⟩ (fun y hy=>hd y (by simp [hy])) fun z hz=>ht z ?_
  rcases hz with hz|⟨y,hy,t,h1,h2⟩
  ·exact ((tn ho.ok.len oa.ok.len).1 hz).elim .inl fun h=>.inr ⟨x,by simp,a,ha,h⟩
  ·exact .inr ⟨y,by simp [hy],t,h1,h2⟩
theorem ze {k:Nat} (_:k<160) {g g':List Int→Option (List (List Int))} (hg: ∀h,HOk h→FR k (g h) (g' (sv k h))): ∀h s,HOk h→g h=some s→SOk s:=fun h s hh e=>by
 have:=hg h hh
 rw [e] at this
 cases e':g' (sv k h) with
 |none=>rw [e'] at this;exact this.elim
 |some t=>rw [e'] at this;exact this.sok.1
theorem yF {k:Nat} (hk:k<160) {g g':List Int→Option (List (List Int))} (hg: ∀h,HOk h→FR k (g h) (g' (sv k h))): ∀h,HOk h→FR k (g' h) (g (sv k h)):=fun h hh=>by
 have:=(hg _ (tF hk hh)).flip hk
 rwa [flip_flip hk hh] at this
theorem yG {k:Nat} (hk:k<160) {g g':List Int→Option (List (List Int))} (hg: ∀h,HOk h→FR k (g h) (g' (sv k h))) {hs hs' s:List (List Int)} (h:td k hs hs') (he:image g hs []=some s): ∃s',image g' hs' []=some s'∧td k s s'∧s.length≤256∧s'.length≤256:=by
 have ok:=ze hk hg
 have ok':=ze hk (yF hk hg)
 have so:=uI ok h.s2 tk he
 obtain ⟨m1,m2⟩:=vo ok h.s2 tk he
 have dom: ∀y∈hs', ∃t,g' y=some t:=fun y hy=>by
  have hy':sv k y∈hs:=(h.mem _ (tF hk (h.t2 y hy))).2 (by rw [flip_flip hk (h.t2 y hy)];exact hy)
  obtain ⟨t,ht⟩:=m2 _ hy'
  have:=hg _ (tF hk (h.t2 y hy))
  rw [ht,flip_flip hk (h.t2 y hy)] at this
  cases e:g' y with
  |none=>rw [e] at this;exact this.elim
  |some u=>exact ⟨u,rfl⟩
 have fit: ∀z,HOk z→((∃ y∈hs, ∃t,g y=some t∧z∈t)↔ ∃y∈hs', ∃t,g' y=some t∧sv k z∈t):=fun z hz=>by
  constructor
  ·rintro ⟨y,hy,t,h1,h2⟩
   have hr:=hg y (h.s2 y hy)
   have hy':=(h.mem y (h.s2 y hy)).1 hy
   obtain ⟨u,hu⟩:=dom _ hy'
   rw [h1,hu] at hr
   exact ⟨_,hy',u,hu,(hr.1.mem z hz).1 h2⟩
  ·rintro ⟨y,hy,t,h1,h2⟩
   have hy':sv k y∈hs:=(h.mem _ (tF hk (h.t2 y hy))).2 (by rw [flip_flip hk (h.t2 y hy)];exact hy)
   have hr:=hg _ (tF hk (h.t2 y hy))
   obtain ⟨u,hu⟩:=m2 _ hy'
   rw [flip_flip hk (h.t2 y hy),h1,hu] at hr
   exact ⟨_,hy',u,hu,(hr.1.mem z hz).2 h2⟩
 obtain ⟨s',hs'⟩:=yc ok' (T:=s.map (sv k)) (by rw [List.length_map];exact so.len) h.t2 tk dom fun z hz=>by
  rcases hz with hz|hz
  ·cases hz
  ·obtain ⟨y,hy,t,h1,h2⟩:=hz
   have oz:HOk z:=(ok' y t (h.t2 y hy) h1).ok z h2
   have:=(fit (sv k z) (tF hk oz)).2 ⟨y,hy,t,h1,by rw [flip_flip hk oz];exact h2⟩
   exact List.mem_map.2 ⟨sv k z,(m1 _).2 (.inr this),flip_flip hk oz⟩
 have so':=uI ok' h.t2 tk hs'
 have m1':=(vo ok' h.t2 tk hs').1
 exact ⟨s',hs',⟨so.srt,so'.srt,so.ok,so'.ok,fun z hz=>by rw [m1,m1'];simp only [List.not_mem_nil,false_or];exact fit z hz⟩,so.len,so'.len⟩
theorem ya {k:Nat} (hk:k<160) {g g':List Int→Option (List (List Int))} (hg: ∀h,HOk h→FR k (g h) (g' (sv k h))) {hs hs':List (List Int)} (h:td k hs hs'):FR k (image g hs []) (image g' hs' []):=by
 cases e:image g hs [] with
 |some s=>
  obtain ⟨s',e',f⟩:=yG hk hg h e
  rw [e'];exact f
 |none=>
  cases e':image g' hs' [] with
  |none=>trivial
  |some s'=>
   obtain ⟨s,es,_⟩:=yG hk (yF hk hg) (h.flip hk) e'
   rw [e] at es;cases es
theorem zA {k:Nat} {s t a b:List (List Int)} (h:td k s t) (g:td k a b):td k (s.filter fun x=> !a.contains x) (t.filter fun x=> !b.contains x):=by
 refine ⟨List.Pairwise.filter _ h.s1,List.Pairwise.filter _ h.t1,fun x hx=>h.s2 x (List.mem_filter.1 hx).1,fun x hx=>h.t2 x (List.mem_filter.1 hx).1,fun z hz=>?_⟩
 simp only [List.mem_filter,h.mem z hz,Bool.not_eq_true',List.contains_eq_mem,decide_eq_false_iff_not,g.mem z hz]
theorem xN {k:Nat} (hk:k<160) {im im':List (List Int)→Option (List (List Int))} (hi: ∀s t,td k s t→FR k (im s) (im' t)): ∀(n:Nat) {a b s t:List (List Int)} (r r':Nat),td k a b→td k s t→
  FR k ((rounds im n a s r).map (·.1)) ((rounds im' n b t r').map (·.1))
 |0,_,_,_,_,_,_,_,_=>trivial
 |n+1,a,b,s,t,r,r',h,g=>by
  have h1:=hi s t g
  unfold rounds
  cases e:im s with
  |none=>
   cases e':im' t with
   |none=>trivial
   |some v=>rw [e,e'] at h1;exact h1.elim
  |some u=>
   cases e':im' t with
   |none=>rw [e,e'] at h1;exact h1.elim
   |some v=>
    rw [e,e'] at h1
    simp only
    have hf:=zA h1.1 h
    have hm:=FR.small hk (h.mrg hf)
    generalize (u.filter fun x=> !a.contains x)=fu at *
    generalize (v.filter fun x=> !b.contains x)=fv at *
    cases e2:small (mrg a fu) with
    |none=>
     cases e3:small (mrg b fv) with
     |none=>trivial
     |some w=>rw [e2,e3] at hm;exact hm.elim
    |some w=>
     cases e3:small (mrg b fv) with
     |none=>rw [e2,e3] at hm;exact hm.elim
     |some x=>
      rw [e2,e3] at hm
      simp only
      have hl:=hf.len hk
      by_cases hz:fu=[]
      ·have hz':fv=[]:=List.eq_nil_of_length_eq_zero (by rw [← hl,hz];rfl)
       rw [if_pos hz,if_pos hz']
       exact hm
      ·have hz': ¬fv=[]:=fun e=>hz (List.eq_nil_of_length_eq_zero (by rw [hl,e];rfl))
       rw [if_neg hz,if_neg hz']
       exact xN hk hi n _ _ hm.1 hf
theorem ur {l:List Fd} (hl:LOk l) {k:Nat} (hk:k<160) {tick:Int}: ∀{p:Po},OOk l p→free l (si k) p→ ∀h,HOk h→FR k (gives l tick p h) (gives l tick p (sv k h))
 |.filter p,ho,hf,h,hh=>by
  simp only [gives]
  rw [uu hl hk hh (p:=p) ho hf]
  split
  ·exact ⟨.one hk hh,by simp,by simp⟩
  ·exact ⟨.nil k,by simp,by simp⟩
 |.set f n,⟨F,hF,hn⟩,hf,h,hh=>by
  have hf:tE (si k) (fld l f):=hf
  rw [tA hF] at hf
  simp only [gives]
  rw [tA hF,Bk hk (hl.find hF) hf hh.len hn]
  exact ⟨.one hk (hh.set (hl.find hF) hn),by simp,by simp⟩
 |.union p q,ho,hf,h,hh=>by
  have h1:=ur hl hk (tick:=tick) (p:=p) ho.1 hf.1 h hh
  have h2:=ur hl hk (tick:=tick) (p:=q) ho.2 hf.2 h hh
  simp only [gives]
  generalize gives l tick p h=a at *
  generalize gives l tick p (sv k h)=a' at *
  generalize gives l tick q h=b at *
  generalize gives l tick q (sv k h)=b' at *
  cases a <;> cases a' <;> first|exact h1.elim|skip
  ·trivial
  ·cases b <;> cases b' <;> first|exact h2.elim|skip
   ·trivial
   ·exact FR.small hk (h1.1.mrg h2.1)
 |.seq p q,ho,hf,h,hh=>by
  have h1:=ur hl hk (tick:=tick) (p:=p) ho.1 hf.1 h hh
  simp only [gives]
  generalize gives l tick p h=a at *
  generalize gives l tick p (sv k h)=a' at *
  cases a <;> cases a' <;> first|exact h1.elim|skip
  ·trivial
  ·exact ya hk (fun y hy=>ur hl hk (p:=q) ho.2 hf.2 y hy) h1.1
 |.star p,ho,hf,h,hh=>by
  simp only [gives]
  exact xN hk (fun s t hst=>ya hk (fun y hy=>ur hl hk (p:=p) ho hf y hy) hst) 300 0 0 (.one hk hh) (.one hk hh)
def sN (l:List Fd) (names:List ByteArray) (k:Nat):Bool:=names.any fun s=>match findF l s with
 |some f=>decide (f.a≤k)&&decide (k<f.a+f.w)
 |none=>false
theorem vW {l:List Fd} {names:List ByteArray} {k:Nat} (h:sN l names k=false) {s:ByteArray} (hs:s∈names) {F:Fd} (hF:findF l s=some F):tE (si k) (fld l s):=by
 rw [tA hF]
 refine outside fun hc=>?_
 have:=List.any_eq_false.1 h s hs
 rw [hF] at this
 simp [hc.1,hc.2] at this
end Go.MM
end
noncomputable section
namespace Go.MM
open Go Go.DL Go.Proofs
def c9:aQ:=(.seq (.region [oo 6 (.mov kF)] []) (.seq (.seq (.region [mv 11 1,ln 12 11,oo 13 (.mov (Kc 0))] []) (.block 0 (.loop (.seq (.region [oo 14 (.bin .lss (tm 13) (tm 12))] []) (.seq (.cond (tm 14) .skip (.exit 0)) (.seq (.block 1 (.seq (.region [ix 15 1 11 13,ld 16 15,mv 8 16] []) (.seq (.region [mv 18 0,mv 19 8,oo 20 (.call 33 [(tm 18),(tm 19)]),mv 17 20,oo 21 (.ext (tm 17) 0),oo 22 (.ext (tm 17) 1),⟨some 9,.alloc [S0,Z0,Z0],none,[]⟩,o0 (.store 3 (tm 9) (tm 21)),mv 10 22] []) (.seq (.region [mv 23 10,mv 24 23,mT 25 2 24,oT 26 24 (.offA 1 (tm 9)),oT 27 24 (.load 1 false (tm 26)),oT 28 24 (.bin .geq (tm 25) (tm 27)),oo 29 (.pick (tm 24) (tm 28) kF),mv 30 29,mT 31 2 30,oT 32 30 (.offA 1 (tm 9)),oT 33 30 (.load 1 false (tm 32)),oT 34 30 (.offA 2 (tm 9)),oT 35 30 (.load 1 false (tm 34)),oT 36 30 (.bin .add (tm 33) (tm 35)),oT 37 30 (.bin .lss (tm 31) (tm 36)),oo 38 (.pick (tm 30) (tm 37) kF)] []) (.cond (tm 38) (.seq (.region [oo 6 (.mov kT)] []) .ret) .skip))))) (.region [oo 39 (.bin .add (tm 13) (Kc 1)),mv 13 39] []))))))) (.seq (.region [oo 6 (.mov kF)] []) .ret)))
theorem l9:(Tryz.f9.body.bind (bk Tryz.prog 40 []))=some c9:=by kernel_rfl
def c10:aQ:=(.seq (.region [oo 2 (.box 10 (tm 0)),oo 4 (.alloc [Z0,Z0,Z0,Z0,Z0,Z0,Z0,Z0,Z0,Z0])] []) (.seq (.region [mv 5 1,oo 6 (.bin .quo (tm 5) (Kc 16)),oo 7 (.idxA 10 1 (tm 2) (tm 6)),ld 8 7,mv 9 1,oo 10 (.bin .rem (tm 9) (Kc 16)),oo 11 (.bin .sub (Kc 15) (tm 10)),oo 12 (.bin .shl (Kc 1) (tm 11)),oo 13 (.bin .xor (tm 8) (tm 12)),oo 14 (.idxA 10 1 (tm 2) (tm 6)),o0 (.store 1 (tm 14) (tm 13))] []) (.seq (.region [lA 15 10 2,o0 (.store 10 (tm 4) (tm 15))] []) .ret)))
theorem l10:(Tryz.f10.body.bind (bk Tryz.prog 16 []))=some c10:=by kernel_rfl
def c3:aQ:=(.seq (.region [oo 6 (.box 9 (tm 1)),oo 7 (.box 10 (tm 2)),oo 10 (.mov kF)] []) (.seq (.seq (.region [mv 24 0,lA 25 10 7,mv 26 3,lA 27 9 6,⟨some 28,.buildS 28 9 1 [Z0,Z0,S0,Z0,Z0,.nil,S0,Z0,.nil] [(0,(tm 27))],none,[]⟩,oo 29 (.call 4 [(tm 24),(tm 25),(tm 26),(tm 28)]),oo 30 (.not (tm 29))] []) (.cond (tm 30) (.seq (.region [oo 31 (.call 5 []),mv 10 31] []) .ret) .skip)) (.seq (.region [lA 32 9 6,oo 33 (.call 6 [tm 32]),lA 34 9 6,oo 35 (.call 7 [tm 34]),mv 11 33,mv 12 35] []) (.seq (.region [mv 37 0,lA 38 9 6,lA 39 10 7,mv 40 3,oo 41 (.call 8 [(tm 37),(tm 38),(tm 39),(tm 40)]),mv 36 41,oo 42 (.ext (tm 36) 0),oo 43 (.ext (tm 36) 1),mv 13 42,mv 14 43] []) (.seq (.region [mv 44 4,oo 45 (.conv .i64 (tm 44)),oo 46 (.bin .rem (tm 45) (Kc 160)),mv 15 46] []) (.seq (.seq (.region [mv 47 13,ln 48 47,oo 49 (.mov (Kc 0))] []) (.block 0 (.loop (.seq (.region [oo 50 (.bin .lss (tm 49) (tm 48))] []) (.seq (.cond (tm 50) .skip (.exit 0)) (.seq (.block 1 (.seq (.region [ix 51 10 47 49,lA 52 10 51,oo 17 (.alloc [Z0,Z0,Z0,Z0,Z0,Z0,Z0,Z0,Z0,Z0]),o0 (.store 10 (tm 17) (tm 52))] []) (.seq (.region [oo 53 (.mov (Kc 0))] []) (.block 2 (.loop (.seq (.region [oo 54 (.bin .lss (tm 53) (Kc 160))] []) (.seq (.cond (tm 54) .skip (.exit 2)) (.seq (.block 3 (.seq (.region [mv 55 53,mv 18 55] []) (.seq (.region [mv 56 18,oo 57 (.bin .quo (tm 56) (Kc 16)),oo 58 (.idxA 10 1 (tm 17) (tm 57)),ld 59 58,mv 60 18,oo 61 (.bin .rem (tm 60) (Kc 16)),oo 62 (.bin .sub (Kc 15) (tm 61)),oo 63 (.bin .shr (tm 59) (tm 62)),oo 64 (.bin .and (tm 63) (Kc 1)),mv 65 18,oo 66 (.bin .quo (tm 65) (Kc 16)),oo 67 (.idxA 10 1 (tm 7) (tm 66)),ld 68 67,mv 69 18,oo 70 (.bin .rem (tm 69) (Kc 16)),oo 71 (.bin .sub (Kc 15) (tm 70)),oo 72 (.bin .shr (tm 68) (tm 71)),oo 73 (.bin .and (tm 72) (Kc 1)),oo 74 (.bin .neq (tm 64) (tm 73)),mv 75 74,mT 76 0 75,mT 77 12 75,mT 78 18 75,oT 79 75 (.call 9 [(tm 76),(tm 77),(tm 78)]),oT 80 75 (.not (tm 79)),oo 81 (.pick (tm 75) (tm 80) kF)] []) (.cond (tm 81) (.seq (.region [oo 10 (.mov kF)] []) .ret) .skip)))) (.region [oo 82 (.bin .add (tm 53) (Kc 1)),mv 53 82] []))))))))) (.region [oo 83 (.bin .add (tm 49) (Kc 1)),mv 49 83] []))))))) (.seq (.seq (.region [mv 84 0,mv 85 11,mv 86 15,oo 87 (.call 9 [(tm 84),(tm 85),(tm 86)]),mv 88 87,mF 89 0 88,mF 90 12 88,mF 91 15 88,oF 92 88 (.call 9 [(tm 89),(tm 90),(tm 91)]),oo 93 (.pick (tm 88) kT (tm 92))] []) (.cond (tm 93) (.seq (.region [oo 94 (.call 5 []),mv 10 94] []) .ret) .skip)) (.seq (.region [mv 96 0,lA 97 9 6,lA 98 10 7,mv 99 15,oo 100 (.call 10 [(tm 98),(tm 99)]),mv 101 3,oo 102 (.call 8 [(tm 96),(tm 97),(tm 100),(tm 101)]),mv 95 102,oo 103 (.ext (tm 95) 0),oo 104 (.ext (tm 95) 1),mv 19 103,mv 20 104] []) (.seq (.region [oo 21 (.mov (.const .nil))] []) (.seq (.seq (.region [mv 105 19,ln 106 105,oo 107 (.mov (Kc 0))] []) (.block 4 (.loop (.seq (.region [oo 108 (.bin .lss (tm 107) (tm 106))] []) (.seq (.cond (tm 108) .skip (.exit 4)) (.seq (.block 5 (.seq (.region [ix 109 10 105 107,lA 110 10 109,oo 23 (.alloc [Z0,Z0,Z0,Z0,Z0,Z0,Z0,Z0,Z0,Z0]),o0 (.store 10 (tm 23) (tm 110))] []) (.region [mv 111 21,lA 112 10 23,mv 113 15,oo 114 (.call 10 [(tm 112),(tm 113)]),oo 115 (.buildS 30 10 1 [Z0,Z0,Z0,Z0,Z0,Z0,Z0,Z0,Z0,Z0] [(0,(tm 114))]),oo 116 (.call 11 [(tm 111),(tm 115)]),mv 21 116] []))) (.region [oo 117 (.bin .add (tm 107) (Kc 1)),mv 107 117] []))))))) (.seq (.region [oo 118 (.call 5 []),mv 119 118,mT 120 14 119,mT 121 20 119,oT 122 119 (.bin .eql (tm 120) (tm 121)),oo 123 (.pick (tm 119) (tm 122) kF),mv 124 123,mT 125 13 124,mT 126 21 124,oT 127 124 (.call 12 [(tm 125),(tm 126)]),oo 128 (.pick (tm 124) (tm 127) kF),mv 10 128] []) .ret)))))))))))
theorem l3:(Tryz.f3.body.bind (bk Tryz.prog 129 []))=some c3:=by kernel_rfl
end Go.MM
end
section
namespace Go.TY
open Go Go.DL Go.MM
mutual
def th:RP→List RP
 |.mk k f n m a=>.mk k f n m a::sK a
def sK:List RP→List RP
 |[]=>[]
 |r::rs=>th r++sK rs
end
theorem wv (r:RP):th r=r::sK r.args:=by cases r;simp [th,RP.args]
theorem xh: ∀(a b:List RP),sK (a++b)=sK a++sK b
 |[],_=>by simp [sK]
 |r::a,b=>by rw [List.cons_append,sK,sK,xh a b,List.append_assoc]
theorem A6 (r:RP):sK [r]=th r:=by simp [sK]
theorem yi {l:List RP} {j:Nat} (h:j<l.length):sK (l.take (j+1))=sK (l.take j)++th l[j]:=by
 rw [List.take_succ_eq_append_getElem h,xh,A6]
theorem A5 {l:List RP} {r:RP} (h:r∈l):(th r).length≤(sK l).length:=by
 induction l with
 |nil=>simp at h
 |cons x l ih=>
  rw [sK,List.length_append]
  rcases List.mem_cons.1 h with rfl|h
  ·omega
  ·have:=ih h;omega
theorem A3 {l:List RP} {j i:Nat} {x:RP} (h:j<l.length) (hx:(th l[j])[i]? =some x):(sK l)[(sK (l.take j)).length+i]? =some x:=by
 have e:sK l=sK (l.take j)++(th l[j]++sK (l.drop (j+1))):=by
  conv=>lhs;rw [← List.take_append_drop (j+1) l]
  rw [xh,yi h,List.append_assoc]
 have hi:=(gsZ hx).1
 rw [e,List.getElem?_append_right (by omega),Nat.add_sub_cancel_left,List.getElem?_append_left hi]
 exact hx
theorem A4 {l:List RP} {j:Nat} (h:j<l.length):(th l[j]).length≤(sK l).length:=A5 (List.getElem_mem h)
theorem zn: ∀(l:List RP),l.length≤(sK l).length
 |[]=>Nat.zero_le _
 |r::l=>by
  have:=zn l
  rw [sK,wv,List.cons_append,List.length_cons,List.length_cons,List.length_append];omega
def sP:RO→List T
 |.mk k p f n a=>[I k,I p.kind,.str p.field,I p.n,I p.m,.slice 5 (p.args.map sR),.str f,I n,.slice 9 (a.map tQ)]
theorem xR (r:RO):sP r=sg r:=by
 obtain ⟨k,⟨pk,pf,pn,pm,pa⟩,f,n,a⟩:=r;rfl
abbrev se (r:RO):T:=tQ r
theorem s7 (r:RO):se r= .agg (sP r):=by rw [xR,se,sM]
theorem tz (r:RO):(sP r).length=9:=by cases r;rfl
mutual
def sn:RO→List RO
 |.mk k p f n a=>.mk k p f n a::sI a
def sI:List RO→List RO
 |[]=>[]
 |r::rs=>sn r++sI rs
end
theorem wu (r:RO):sn r=r::sI r.args:=by cases r;simp [sn,RO.args]
theorem xg: ∀(a b:List RO),sI (a++b)=sI a++sI b
 |[],_=>by simp [sI]
 |r::a,b=>by rw [List.cons_append,sI,sI,xg a b,List.append_assoc]
theorem A2 (r:RO):sI [r]=sn r:=by simp [sI]
theorem yh {l:List RO} {j:Nat} (h:j<l.length):sI (l.take (j+1))=sI (l.take j)++sn l[j]:=by
 rw [List.take_succ_eq_append_getElem h,xg,A2]
theorem A1 {l:List RO} {r:RO} (h:r∈l):(sn r).length≤(sI l).length:=by
 induction l with
 |nil=>simp at h
 |cons x l ih=>
  rw [sI,List.length_append]
  rcases List.mem_cons.1 h with rfl|h
  ·omega
  ·have:=ih h;omega
theorem AZ {l:List RO} {j i:Nat} {x:RO} (h:j<l.length) (hx:(sn l[j])[i]? =some x):(sI l)[(sI (l.take j)).length+i]? =some x:=by
 have e:sI l=sI (l.take j)++(sn l[j]++sI (l.drop (j+1))):=by
  conv=>lhs;rw [← List.take_append_drop (j+1) l]
  rw [xg,yh h,List.append_assoc]
 have hi:=(gsZ hx).1
 rw [e,List.getElem?_append_right (by omega),Nat.add_sub_cancel_left,List.getElem?_append_left hi]
 exact hx
theorem A0 {l:List RO} {j:Nat} (h:j<l.length):(sn l[j]).length≤(sI l).length:=A1 (List.getElem_mem h)
theorem zm: ∀(l:List RO),l.length≤(sI l).length
 |[]=>Nat.zero_le _
 |r::l=>by
  have:=zm l
  rw [sI,wu,List.cons_append,List.length_cons,List.length_cons,List.length_append];omega
end Go.TY
end
noncomputable section
namespace Go.TY
open Go Go.DL Go.Proofs
theorem mx:Tryz.prog.follows .mixedOrders=true:=by kernel_rfl
def b76:Code:=(Tryz.f76.body).getD .skip
theorem Fy:Tryz.f76.body=some b76:=by kernel_rfl
def Ak:Code:=ic [0] b76
def B0:aQ:=(.region [oo 2 (.box 1 (tm 0))] [])
theorem Ev:bk Tryz.prog 8 [] Ak=some B0:=by kernel_rfl
theorem D8 [Glb] {st:St} {Q:av→St→Prop} (hw:wpC Tryz.prog B0 st Q):aG Tryz.prog 8 Ak st Q:=aG.low mx Ev (by kernel_rfl) (by kernel_rfl) hw
def Ap:Code:=ic [1,0] b76
def B5:aQ:=(.region [oo 3 (.alloc [.nilfn])] [])
theorem Ez:bk Tryz.prog 8 [] Ap=some B5:=by kernel_rfl
theorem Ec [Glb] {st:St} {Q:av→St→Prop} (hw:wpC Tryz.prog B5 st Q):aG Tryz.prog 8 Ap st Q:=aG.low mx Ez (by kernel_rfl) (by kernel_rfl) hw
def Au:Code:=ic [1,1,0] b76
def B9:aQ:=(.region [oo 4 (.mkfn 77 [(tm 2),(tm 3)]),o0 (.store 1 (tm 3) (tm 4))] [])
theorem ED:bk Tryz.prog 8 [] Au=some B9:=by kernel_rfl
theorem Ef [Glb] {st:St} {Q:av→St→Prop} (hw:wpC Tryz.prog B9 st Q):aG Tryz.prog 8 Au st Q:=aG.low mx ED (by kernel_rfl) (by kernel_rfl) hw
def yV:Code:=ic [1,1,1] b76
theorem DT:yV= .region 3 (sc yV) false:=by kernel_rfl
theorem E7 [Glb] {st:St} {Q:av→St→Prop} (hw:aw Tryz.prog [⟨some 5,.load 1 false (.tmp 3),none,[]⟩,⟨some 6,.load 5 true (.tmp 1),none,[]⟩] st fun s0=>gM Tryz.prog (ev s0.sl (.tmp 5)) (List.map (ev s0.sl) [(.tmp 6)]) (some 7) s0 fun s1=>aw Tryz.prog [] s1 (Q .normal)):aG Tryz.prog 8 yV st Q:=by
 rw [DT]
 exact aG.rl (k1:=[0,1]) (k:=2) (k2:=[]) (by kernel_rfl) (by kernel_rfl) (by kernel_rfl) (by kernel_rfl) (by kernel_rfl) (X:=.tmp 5) (az:= #[.tmp 6]) (ats:= #[25]) (d:=7) (by kernel_rfl) rfl rfl (by decide) hw
theorem k76:b76=(.seq Ak (.seq Ap (.seq Au yV))):=by kernel_rfl
def b77:Code:=(Tryz.f77.body).getD .skip
theorem Fz:Tryz.f77.body=some b77:=by kernel_rfl
def Al:Code:=ic [0] b77
def B1:aQ:=(.region [oo 3 (.box 5 (tm 0)),oo 4 (.mov kF)] [])
theorem Ew:bk Tryz.prog 23 [] Al=some B1:=by kernel_rfl
theorem D9 [Glb] {st:St} {Q:av→St→Prop} (hw:wpC Tryz.prog B1 st Q):aG Tryz.prog 23 Al st Q:=aG.low mx Ew (by kernel_rfl) (by kernel_rfl) hw
def yT:Code:=ic [1,0,0] b77
theorem DR:yT= .region 1 (sc yT) false:=by kernel_rfl
theorem EZ [Glb] {st:St} {Q:av→St→Prop} (hw:aw Tryz.prog [⟨some 7,.load 1 false (.tmp 1),none,[]⟩,⟨some 8,.load 5 true (.tmp 3),none,[]⟩] st fun s0=>gM Tryz.prog (ev s0.sl (.tmp 7)) (List.map (ev s0.sl) [(.tmp 8)]) (some 9) s0 fun s1=>aw Tryz.prog [⟨some 10,.not (.tmp 9),none,[]⟩] s1 (Q .normal)):aG Tryz.prog 23 yT st Q:=by
 rw [DR]
 exact aG.rl (k1:=[0,1]) (k:=2) (k2:=[3]) (by kernel_rfl) (by kernel_rfl) (by kernel_rfl) (by kernel_rfl) (by kernel_rfl) (X:=.tmp 7) (az:= #[.tmp 8]) (ats:= #[25]) (d:=9) (by kernel_rfl) rfl rfl (by decide) hw
def Av:Code:=ic [1,0,1] b77
def Ca:aQ:=(.cond (tm 10) (.seq (.region [oo 4 (.mov kF)] []) .ret) .skip)
theorem EE:bk Tryz.prog 23 [] Av=some Ca:=by kernel_rfl
theorem BP [Glb] {st:St} {Q:av→St→Prop} (hw:wpC Tryz.prog Ca st Q):aG Tryz.prog 23 Av st Q:=aG.low mx EE (by kernel_rfl) (by kernel_rfl) hw
def Ax:Code:=ic [1,1,0,0] b77
def Cd:aQ:=(.region [fa 11 4 3,ld 12 11,ln 13 12,oo 14 (.mov (Kc 0))] [])
theorem EH:bk Tryz.prog 23 [] Ax=some Cd:=by kernel_rfl
theorem Ei [Glb] {st:St} {Q:av→St→Prop} (hw:wpC Tryz.prog Cd st Q):aG Tryz.prog 23 Ax st Q:=aG.low mx EH (by kernel_rfl) (by kernel_rfl) hw
def Az:Code:=ic [1,1,0,1,0,0,0] b77
def Cg:aQ:=(.region [oo 15 (.bin .lss (tm 14) (tm 13))] [])
theorem EK:bk Tryz.prog 23 [] Az=some Cg:=by kernel_rfl
theorem El [Glb] {st:St} {Q:av→St→Prop} (hw:wpC Tryz.prog Cg st Q):aG Tryz.prog 23 Az st Q:=aG.low mx EK (by kernel_rfl) (by kernel_rfl) hw
def AB:Code:=ic [1,1,0,1,0,0,1,0] b77
def Cj:aQ:=(.cond (tm 15) .skip (.exit 0))
theorem EN:bk Tryz.prog 23 [] AB=some Cj:=by kernel_rfl
theorem BR [Glb] {st:St} {Q:av→St→Prop} (hw:wpC Tryz.prog Cj st Q):aG Tryz.prog 23 AB st Q:=aG.low mx EN (by kernel_rfl) (by kernel_rfl) hw
def AE:Code:=ic [1,1,0,1,0,0,1,1,0,0,0] b77
def Cl:aQ:=(.region [ix 16 5 12 14,lA 17 5 16,⟨some 6,.alloc [Z0,S0,Z0,Z0,.nil],none,[]⟩,o0 (.store 5 (tm 6) (tm 17))] [])
theorem EP:bk Tryz.prog 23 [] AE=some Cl:=by kernel_rfl
theorem Eo [Glb] {st:St} {Q:av→St→Prop} (hw:wpC Tryz.prog Cl st Q):aG Tryz.prog 23 AE st Q:=aG.low mx EP (by kernel_rfl) (by kernel_rfl) hw
def yX:Code:=ic [1,1,0,1,0,0,1,1,0,0,1,0] b77
theorem DW:yX= .region 6 (sc yX) false:=by kernel_rfl
theorem Fa [Glb] {st:St} {Q:av→St→Prop} (hw:aw Tryz.prog [⟨some 18,.load 1 false (.tmp 2),none,[]⟩,⟨some 19,.load 5 true (.tmp 6),none,[]⟩] st fun s0=>gM Tryz.prog (ev s0.sl (.tmp 18)) (List.map (ev s0.sl) [(.tmp 19)]) (some 20) s0 fun s1=>aw Tryz.prog [⟨some 21,.not (.tmp 20),none,[]⟩] s1 (Q .normal)):aG Tryz.prog 23 yX st Q:=by
 rw [DW]
 exact aG.rl (k1:=[0,1]) (k:=2) (k2:=[3]) (by kernel_rfl) (by kernel_rfl) (by kernel_rfl) (by kernel_rfl) (by kernel_rfl) (X:=.tmp 18) (az:= #[.tmp 19]) (ats:= #[25]) (d:=20) (by kernel_rfl) rfl rfl (by decide) hw
def AG:Code:=ic [1,1,0,1,0,0,1,1,0,0,1,1] b77
def Co:aQ:=(.cond (tm 21) (.seq (.region [oo 4 (.mov kF)] []) .ret) .skip)
theorem ET:bk Tryz.prog 23 [] AG=some Co:=by kernel_rfl
theorem BU [Glb] {st:St} {Q:av→St→Prop} (hw:wpC Tryz.prog Co st Q):aG Tryz.prog 23 AG st Q:=aG.low mx ET (by kernel_rfl) (by kernel_rfl) hw
def AI:Code:=ic [1,1,0,1,0,0,1,1,1] b77
def Cq:aQ:=(.region [oo 22 (.bin .add (tm 14) (Kc 1)),mv 14 22] [])
theorem EV:bk Tryz.prog 23 [] AI=some Cq:=by kernel_rfl
theorem Er [Glb] {st:St} {Q:av→St→Prop} (hw:wpC Tryz.prog Cq st Q):aG Tryz.prog 23 AI st Q:=aG.low mx EV (by kernel_rfl) (by kernel_rfl) hw
def zr:Code:=ic [1,1,1] b77
def AX:aQ:=(.seq (.region [oo 4 (.mov kT)] []) .ret)
theorem Dr:bk Tryz.prog 23 [] zr=some AX:=by kernel_rfl
theorem C5 [Glb] {st:St} {Q:av→St→Prop} (hw:wpC Tryz.prog AX st Q):aG Tryz.prog 23 zr st Q:=aG.low mx Dr (by kernel_rfl) (by kernel_rfl) hw
theorem k77:b77=(.seq Al (.seq (.seq yT Av) (.seq (.seq Ax (.block 0 (.loop (.seq Az (.seq AB (.seq (.block 1 (.seq AE (.seq yX AG))) AI)))))) zr))):=by kernel_rfl
def b50:Code:=(Tryz.f50.body).getD .skip
theorem Fw:Tryz.f50.body=some b50:=by kernel_rfl
def Ai:Code:=ic [0] b50
def BY:aQ:=(.region [oo 2 (.box 1 (tm 0))] [])
theorem Et:bk Tryz.prog 8 [] Ai=some BY:=by kernel_rfl
theorem D6 [Glb] {st:St} {Q:av→St→Prop} (hw:wpC Tryz.prog BY st Q):aG Tryz.prog 8 Ai st Q:=aG.low mx Et (by kernel_rfl) (by kernel_rfl) hw
def Ao:Code:=ic [1,0] b50
def B4:aQ:=(.region [oo 3 (.alloc [.nilfn])] [])
theorem Ey:bk Tryz.prog 8 [] Ao=some B4:=by kernel_rfl
theorem Eb [Glb] {st:St} {Q:av→St→Prop} (hw:wpC Tryz.prog B4 st Q):aG Tryz.prog 8 Ao st Q:=aG.low mx Ey (by kernel_rfl) (by kernel_rfl) hw
def Aq:Code:=ic [1,1,0] b50
def B7:aQ:=(.region [oo 4 (.mkfn 51 [(tm 2),(tm 3)]),o0 (.store 1 (tm 3) (tm 4))] [])
theorem EB:bk Tryz.prog 8 [] Aq=some B7:=by kernel_rfl
theorem Ee [Glb] {st:St} {Q:av→St→Prop} (hw:wpC Tryz.prog B7 st Q):aG Tryz.prog 8 Aq st Q:=aG.low mx EB (by kernel_rfl) (by kernel_rfl) hw
def yU:Code:=ic [1,1,1] b50
theorem DS:yU= .region 3 (sc yU) false:=by kernel_rfl
theorem E0 [Glb] {st:St} {Q:av→St→Prop} (hw:aw Tryz.prog [⟨some 5,.load 1 false (.tmp 3),none,[]⟩,⟨some 6,.load 9 true (.tmp 1),none,[]⟩] st fun s0=>gM Tryz.prog (ev s0.sl (.tmp 5)) (List.map (ev s0.sl) [(.tmp 6)]) (some 7) s0 fun s1=>aw Tryz.prog [] s1 (Q .normal)):aG Tryz.prog 8 yU st Q:=by
 rw [DS]
 exact aG.rl (k1:=[0,1]) (k:=2) (k2:=[]) (by kernel_rfl) (by kernel_rfl) (by kernel_rfl) (by kernel_rfl) (by kernel_rfl) (X:=.tmp 5) (az:= #[.tmp 6]) (ats:= #[28]) (d:=7) (by kernel_rfl) rfl rfl (by decide) hw
theorem k50:b50=(.seq Ai (.seq Ao (.seq Aq yU))):=by kernel_rfl
def b51:Code:=(Tryz.f51.body).getD .skip
theorem Fx:Tryz.f51.body=some b51:=by kernel_rfl
def Aj:Code:=ic [0] b51
def BZ:aQ:=(.region [oo 3 (.box 9 (tm 0)),oo 4 (.mov kF)] [])
theorem Eu:bk Tryz.prog 23 [] Aj=some BZ:=by kernel_rfl
theorem D7 [Glb] {st:St} {Q:av→St→Prop} (hw:wpC Tryz.prog BZ st Q):aG Tryz.prog 23 Aj st Q:=aG.low mx Eu (by kernel_rfl) (by kernel_rfl) hw
def yS:Code:=ic [1,0,0] b51
theorem DQ:yS= .region 1 (sc yS) false:=by kernel_rfl
theorem EY [Glb] {st:St} {Q:av→St→Prop} (hw:aw Tryz.prog [⟨some 7,.load 1 false (.tmp 1),none,[]⟩,⟨some 8,.load 9 true (.tmp 3),none,[]⟩] st fun s0=>gM Tryz.prog (ev s0.sl (.tmp 7)) (List.map (ev s0.sl) [(.tmp 8)]) (some 9) s0 fun s1=>aw Tryz.prog [⟨some 10,.not (.tmp 9),none,[]⟩] s1 (Q .normal)):aG Tryz.prog 23 yS st Q:=by
 rw [DQ]
 exact aG.rl (k1:=[0,1]) (k:=2) (k2:=[3]) (by kernel_rfl) (by kernel_rfl) (by kernel_rfl) (by kernel_rfl) (by kernel_rfl) (X:=.tmp 7) (az:= #[.tmp 8]) (ats:= #[28]) (d:=9) (by kernel_rfl) rfl rfl (by decide) hw
def Ar:Code:=ic [1,0,1] b51
def B8:aQ:=(.cond (tm 10) (.seq (.region [oo 4 (.mov kF)] []) .ret) .skip)
theorem EC:bk Tryz.prog 23 [] Ar=some B8:=by kernel_rfl
theorem BO [Glb] {st:St} {Q:av→St→Prop} (hw:wpC Tryz.prog B8 st Q):aG Tryz.prog 23 Ar st Q:=aG.low mx EC (by kernel_rfl) (by kernel_rfl) hw
def Aw:Code:=ic [1,1,0,0] b51
def Cc:aQ:=(.region [fa 11 8 3,ld 12 11,ln 13 12,oo 14 (.mov (Kc 0))] [])
theorem EG:bk Tryz.prog 23 [] Aw=some Cc:=by kernel_rfl
theorem Eh [Glb] {st:St} {Q:av→St→Prop} (hw:wpC Tryz.prog Cc st Q):aG Tryz.prog 23 Aw st Q:=aG.low mx EG (by kernel_rfl) (by kernel_rfl) hw
def Ay:Code:=ic [1,1,0,1,0,0,0] b51
def Cf:aQ:=(.region [oo 15 (.bin .lss (tm 14) (tm 13))] [])
theorem EJ:bk Tryz.prog 23 [] Ay=some Cf:=by kernel_rfl
theorem Ek [Glb] {st:St} {Q:av→St→Prop} (hw:wpC Tryz.prog Cf st Q):aG Tryz.prog 23 Ay st Q:=aG.low mx EJ (by kernel_rfl) (by kernel_rfl) hw
def AA:Code:=ic [1,1,0,1,0,0,1,0] b51
def Ci:aQ:=(.cond (tm 15) .skip (.exit 0))
theorem EM:bk Tryz.prog 23 [] AA=some Ci:=by kernel_rfl
theorem BQ [Glb] {st:St} {Q:av→St→Prop} (hw:wpC Tryz.prog Ci st Q):aG Tryz.prog 23 AA st Q:=aG.low mx EM (by kernel_rfl) (by kernel_rfl) hw
def AD:Code:=ic [1,1,0,1,0,0,1,1,0,0,0] b51
def Ck:aQ:=(.region [ix 16 9 12 14,lA 17 9 16,⟨some 6,.alloc [Z0,Z0,S0,Z0,Z0,.nil,S0,Z0,.nil],none,[]⟩,o0 (.store 9 (tm 6) (tm 17))] [])
theorem EO:bk Tryz.prog 23 [] AD=some Ck:=by kernel_rfl
theorem En [Glb] {st:St} {Q:av→St→Prop} (hw:wpC Tryz.prog Ck st Q):aG Tryz.prog 23 AD st Q:=aG.low mx EO (by kernel_rfl) (by kernel_rfl) hw
def yW:Code:=ic [1,1,0,1,0,0,1,1,0,0,1,0] b51
theorem DV:yW= .region 6 (sc yW) false:=by kernel_rfl
theorem E9 [Glb] {st:St} {Q:av→St→Prop} (hw:aw Tryz.prog [⟨some 18,.load 1 false (.tmp 2),none,[]⟩,⟨some 19,.load 9 true (.tmp 6),none,[]⟩] st fun s0=>gM Tryz.prog (ev s0.sl (.tmp 18)) (List.map (ev s0.sl) [(.tmp 19)]) (some 20) s0 fun s1=>aw Tryz.prog [⟨some 21,.not (.tmp 20),none,[]⟩] s1 (Q .normal)):aG Tryz.prog 23 yW st Q:=by
 rw [DV]
 exact aG.rl (k1:=[0,1]) (k:=2) (k2:=[3]) (by kernel_rfl) (by kernel_rfl) (by kernel_rfl) (by kernel_rfl) (by kernel_rfl) (X:=.tmp 18) (az:= #[.tmp 19]) (ats:= #[28]) (d:=20) (by kernel_rfl) rfl rfl (by decide) hw
def AF:Code:=ic [1,1,0,1,0,0,1,1,0,0,1,1] b51
def Cn:aQ:=(.cond (tm 21) (.seq (.region [oo 4 (.mov kF)] []) .ret) .skip)
theorem ES:bk Tryz.prog 23 [] AF=some Cn:=by kernel_rfl
theorem BT [Glb] {st:St} {Q:av→St→Prop} (hw:wpC Tryz.prog Cn st Q):aG Tryz.prog 23 AF st Q:=aG.low mx ES (by kernel_rfl) (by kernel_rfl) hw
def AH:Code:=ic [1,1,0,1,0,0,1,1,1] b51
def Cp:aQ:=(.region [oo 22 (.bin .add (tm 14) (Kc 1)),mv 14 22] [])
theorem EU:bk Tryz.prog 23 [] AH=some Cp:=by kernel_rfl
theorem Ep [Glb] {st:St} {Q:av→St→Prop} (hw:wpC Tryz.prog Cp st Q):aG Tryz.prog 23 AH st Q:=aG.low mx EU (by kernel_rfl) (by kernel_rfl) hw
def zq:Code:=ic [1,1,1] b51
def AW:aQ:=(.seq (.region [oo 4 (.mov kT)] []) .ret)
theorem Dq:bk Tryz.prog 23 [] zq=some AW:=by kernel_rfl
theorem C4 [Glb] {st:St} {Q:av→St→Prop} (hw:wpC Tryz.prog AW st Q):aG Tryz.prog 23 zq st Q:=aG.low mx Dq (by kernel_rfl) (by kernel_rfl) hw
theorem k51:b51=(.seq Aj (.seq (.seq yS Ar) (.seq (.seq Aw (.block 0 (.loop (.seq Ay (.seq AA (.seq (.block 1 (.seq AD (.seq yW AF))) AH)))))) zq))):=by kernel_rfl
def b45:Code:=(Tryz.f45.body).getD .skip
theorem Fv:Tryz.f45.body=some b45:=by kernel_rfl
def Ah:Code:=ic [0] b45
def BW:aQ:=(.region [oo 2 (.box 1 (tm 0))] [])
theorem Es:bk Tryz.prog 19 [] Ah=some BW:=by kernel_rfl
theorem D5 [Glb] {st:St} {Q:av→St→Prop} (hw:wpC Tryz.prog BW st Q):aG Tryz.prog 19 Ah st Q:=aG.low mx Es (by kernel_rfl) (by kernel_rfl) hw
def Am:Code:=ic [1,0] b45
def B3:aQ:=(.region [lA 5 9 1,oo 6 (.call 30 [tm 5])] [])
theorem Ex:bk Tryz.prog 19 [] Am=some B3:=by kernel_rfl
theorem Ea [Glb] {st:St} {Q:av→St→Prop} (hw:wpC Tryz.prog B3 st Q):aG Tryz.prog 19 Am st Q:=aG.low mx Ex (by kernel_rfl) (by kernel_rfl) hw
def yn:Code:=ic [1,1,0,0] b45
def B6:aQ:=(.region [⟨some 3,.alloc [Z0,Z0,S0,Z0,Z0,.nil,S0,Z0,.nil],none,[]⟩,o0 (.store 9 (tm 3) (tm 7))] [])
theorem EA:bk Tryz.prog 19 [] yn=some B6:=by kernel_rfl
theorem Ed [Glb] {st:St} {Q:av→St→Prop} (hw:wpC Tryz.prog B6 st Q):aG Tryz.prog 19 yn st Q:=aG.low mx EA (by kernel_rfl) (by kernel_rfl) hw
def yo:Code:=ic [1,1,0,1,0,0] b45
def Cb:aQ:=(.seq (.region [fa 8 0 3,ld 9 8,oo 10 (.bin .neq (tm 9) (Kc 1))] []) (.cond (tm 10) (.exit 1) .skip))
theorem EF:bk Tryz.prog 19 [] yo=some Cb:=by kernel_rfl
theorem Eg [Glb] {st:St} {Q:av→St→Prop} (hw:wpC Tryz.prog Cb st Q):aG Tryz.prog 19 yo st Q:=aG.low mx EF (by kernel_rfl) (by kernel_rfl) hw
def yp:Code:=ic [1,1,0,1,0,1,0] b45
def Ce:aQ:=(.region [fa 11 1 3,lA 12 5 11,oo 13 (.call 46 [tm 12])] [])
theorem EI:bk Tryz.prog 19 [] yp=some Ce:=by kernel_rfl
theorem Ej [Glb] {st:St} {Q:av→St→Prop} (hw:wpC Tryz.prog Ce st Q):aG Tryz.prog 19 yp st Q:=aG.low mx EI (by kernel_rfl) (by kernel_rfl) hw
def xy:Code:=ic [1,1,0,1,0,1,1,0,0] b45
def Ch:aQ:=(.region [⟨some 4,.alloc [Z0,S0,Z0,Z0,.nil],none,[]⟩,o0 (.store 5 (tm 4) (tm 14))] [])
theorem EL:bk Tryz.prog 19 [] xy=some Ch:=by kernel_rfl
theorem Em [Glb] {st:St} {Q:av→St→Prop} (hw:wpC Tryz.prog Ch st Q):aG Tryz.prog 19 xy st Q:=aG.low mx EL (by kernel_rfl) (by kernel_rfl) hw
def wS:Code:=ic [1,1,0,1,0,1,1,0,1,0,0] b45
theorem DU:wS= .region 6 (sc wS) false:=by kernel_rfl
theorem E8 [Glb] {st:St} {Q:av→St→Prop} (hw:aw Tryz.prog [⟨some 15,.load 1 false (.tmp 2),none,[]⟩,⟨some 16,.load 5 true (.tmp 4),none,[]⟩] st fun s0=>gM Tryz.prog (ev s0.sl (.tmp 15)) (List.map (ev s0.sl) [(.tmp 16)]) (some 17) s0 fun s1=>aw Tryz.prog [⟨some 18,.not (.tmp 17),none,[]⟩] s1 (Q .normal)):aG Tryz.prog 19 wS st Q:=by
 rw [DU]
 exact aG.rl (k1:=[0,1]) (k:=2) (k2:=[3]) (by kernel_rfl) (by kernel_rfl) (by kernel_rfl) (by kernel_rfl) (by kernel_rfl) (X:=.tmp 15) (az:= #[.tmp 16]) (ats:= #[25]) (d:=17) (by kernel_rfl) rfl rfl (by decide) hw
def xz:Code:=ic [1,1,0,1,0,1,1,0,1,0,1] b45
def Cm:aQ:=(.cond (tm 18) .ret .skip)
theorem ER:bk Tryz.prog 19 [] xz=some Cm:=by kernel_rfl
theorem BS [Glb] {st:St} {Q:av→St→Prop} (hw:wpC Tryz.prog Cm st Q):aG Tryz.prog 19 xz st Q:=aG.low mx ER (by kernel_rfl) (by kernel_rfl) hw
theorem k45:b45=(.seq Ah (.seq Am (.block 0 (.rangeFunc (.tmp 6) #[7] yn (.block 1 (.seq yo (.seq yp (.block 2 (.rangeFunc (.tmp 13) #[14] xy (.block 3 (.seq wS xz))))))))))):=by kernel_rfl
def b6:Code:=(Tryz.f6.body).getD .skip
theorem hb6:Tryz.f6.body=some b6:=by kernel_rfl
def Bu:Code:=ic [0] b6
def C9:aQ:=(.region [oo 1 (.box 9 (tm 0)),oo 2 (.mov (.const .nil))] [])
theorem Gb:bk Tryz.prog 18 [] Bu=some C9:=by kernel_rfl
theorem FU [Glb] {st:St} {Q:av→St→Prop} (hw:wpC Tryz.prog C9 st Q):aG Tryz.prog 18 Bu st Q:=aG.low mx Gb (by kernel_rfl) (by kernel_rfl) hw
def Bw:Code:=ic [1,0] b6
def Db:aQ:=(.region [oo 5 (.mkmap false [.str]),oo 3 (.alloc [.nilmap]),o0 (.store 1 (tm 3) (tm 5))] [])
theorem Gd:bk Tryz.prog 18 [] Bw=some Db:=by kernel_rfl
theorem FW [Glb] {st:St} {Q:av→St→Prop} (hw:wpC Tryz.prog Db st Q):aG Tryz.prog 18 Bw st Q:=aG.low mx Gd (by kernel_rfl) (by kernel_rfl) hw
def By:Code:=ic [1,1,0,0] b6
def De:aQ:=(.region [lA 6 9 1,oo 7 (.call 27 [tm 6])] [])
theorem Gf:bk Tryz.prog 18 [] By=some De:=by kernel_rfl
theorem FY [Glb] {st:St} {Q:av→St→Prop} (hw:wpC Tryz.prog De st Q):aG Tryz.prog 18 By st Q:=aG.low mx Gf (by kernel_rfl) (by kernel_rfl) hw
def BB:Code:=ic [1,1,0,1,0,0] b6
def Dg:aQ:=(.region [⟨some 4,.alloc [Z0,S0,Z0,Z0,.nil],none,[]⟩,o0 (.store 5 (tm 4) (tm 8))] [])
theorem Gh:bk Tryz.prog 18 [] BB=some Dg:=by kernel_rfl
theorem F0 [Glb] {st:St} {Q:av→St→Prop} (hw:wpC Tryz.prog Dg st Q):aG Tryz.prog 18 BB st Q:=aG.low mx Gh (by kernel_rfl) (by kernel_rfl) hw
def BD:Code:=ic [1,1,0,1,0,1] b6
def Di:aQ:=(.block 1 (.seq (.region [fa 9 1 4,ld 10 9,⟨some 11,.bin .neq (tm 10) (.const S0),none,[]⟩] []) (.cond (tm 11) (.region [ld 12 3,fa 13 1 4,ld 14 13,o0 (.bz false [.str] (tm 12) (tm 14) kT)] []) .skip)))
theorem Gj:bk Tryz.prog 18 [] BD=some Di:=by kernel_rfl
theorem F3 [Glb] {st:St} {Q:av→St→Prop} (hw:wpC Tryz.prog Di st Q):aG Tryz.prog 18 BD st Q:=aG.low mx Gj (by kernel_rfl) (by kernel_rfl) hw
def BF:Code:=ic [1,1,1] b6
def Dk:aQ:=(.seq (.region [ld 15 3,oo 16 (.call 29 [tm 15]),oo 17 (.call 28 [tm 16]),mv 2 17] []) .ret)
theorem Gl:bk Tryz.prog 18 [] BF=some Dk:=by kernel_rfl
theorem F5 [Glb] {st:St} {Q:av→St→Prop} (hw:wpC Tryz.prog Dk st Q):aG Tryz.prog 18 BF st Q:=aG.low mx Gl (by kernel_rfl) (by kernel_rfl) hw
theorem k6:b6=(.seq Bu (.seq Bw (.seq (.seq By (.block 0 (.rangeFunc (.tmp 7) #[8] BB BD))) BF))):=by kernel_rfl
def b7:Code:=(Tryz.f7.body).getD .skip
theorem hb7:Tryz.f7.body=some b7:=by kernel_rfl
def Bv:Code:=ic [0] b7
def Da:aQ:=(.region [oo 1 (.box 9 (tm 0)),oo 2 (.mov (.const .nil))] [])
theorem Gc:bk Tryz.prog 18 [] Bv=some Da:=by kernel_rfl
theorem FV [Glb] {st:St} {Q:av→St→Prop} (hw:wpC Tryz.prog Da st Q):aG Tryz.prog 18 Bv st Q:=aG.low mx Gc (by kernel_rfl) (by kernel_rfl) hw
def Bx:Code:=ic [1,0] b7
def Dc:aQ:=(.region [oo 5 (.mkmap false [.str]),oo 3 (.alloc [.nilmap]),o0 (.store 1 (tm 3) (tm 5))] [])
theorem Ge:bk Tryz.prog 18 [] Bx=some Dc:=by kernel_rfl
theorem FX [Glb] {st:St} {Q:av→St→Prop} (hw:wpC Tryz.prog Dc st Q):aG Tryz.prog 18 Bx st Q:=aG.low mx Ge (by kernel_rfl) (by kernel_rfl) hw
def Bz:Code:=ic [1,1,0,0] b7
def Df:aQ:=(.region [lA 6 9 1,oo 7 (.call 30 [tm 6])] [])
theorem Gg:bk Tryz.prog 18 [] Bz=some Df:=by kernel_rfl
theorem FZ [Glb] {st:St} {Q:av→St→Prop} (hw:wpC Tryz.prog Df st Q):aG Tryz.prog 18 Bz st Q:=aG.low mx Gg (by kernel_rfl) (by kernel_rfl) hw
def BC:Code:=ic [1,1,0,1,0,0] b7
def Dh:aQ:=(.region [⟨some 4,.alloc [Z0,Z0,S0,Z0,Z0,.nil,S0,Z0,.nil],none,[]⟩,o0 (.store 9 (tm 4) (tm 8))] [])
theorem Gi:bk Tryz.prog 18 [] BC=some Dh:=by kernel_rfl
theorem F2 [Glb] {st:St} {Q:av→St→Prop} (hw:wpC Tryz.prog Dh st Q):aG Tryz.prog 18 BC st Q:=aG.low mx Gi (by kernel_rfl) (by kernel_rfl) hw
def BE:Code:=ic [1,1,0,1,0,1] b7
def Dj:aQ:=(.block 1 (.seq (.region [fa 9 0 4,ld 10 9,oo 11 (.bin .eql (tm 10) (Kc 2))] []) (.cond (tm 11) (.region [ld 12 3,fa 13 6 4,ld 14 13,o0 (.bz false [.str] (tm 12) (tm 14) kT)] []) .skip)))
theorem Gk:bk Tryz.prog 18 [] BE=some Dj:=by kernel_rfl
theorem F4 [Glb] {st:St} {Q:av→St→Prop} (hw:wpC Tryz.prog Dj st Q):aG Tryz.prog 18 BE st Q:=aG.low mx Gk (by kernel_rfl) (by kernel_rfl) hw
def BG:Code:=ic [1,1,1] b7
def Dl:aQ:=(.seq (.region [ld 15 3,oo 16 (.call 29 [tm 15]),oo 17 (.call 28 [tm 16]),mv 2 17] []) .ret)
theorem Gm:bk Tryz.prog 18 [] BG=some Dl:=by kernel_rfl
theorem F6 [Glb] {st:St} {Q:av→St→Prop} (hw:wpC Tryz.prog Dl st Q):aG Tryz.prog 18 BG st Q:=aG.low mx Gm (by kernel_rfl) (by kernel_rfl) hw
theorem k7:b7=(.seq Bv (.seq Bx (.seq (.seq Bz (.block 0 (.rangeFunc (.tmp 7) #[8] BC BE))) BG))):=by kernel_rfl
end Go.TY
end
section
namespace Go.TY
open Go Go.DL Go.MM Go.Proofs
attribute [local irreducible] aG gM WCM YC
section
variable [Glb]
theorem yt {l:Nat} {rc:Option Code→Loop} {cxo:aa→World→Prop} {own:St} {F:Nat→Prop} {hi:Nat} {xs:List T} {outs:Nat→List (Nat×BX)} {stop:Code→(aa→World→Prop)→List (Nat×BX)→Prop} (G:dF Tryz.prog l rc cxo own F hi xs outs stop) (yb wb:Nat) (hyb:hi≤yb) (hwb:hi≤wb):
  ∀(b:Nat) (r:RP),(th r).length≤b→b<2^60→ ∀(k m off:Nat) (st:St) (d:Option Nat) (K:St→Prop),(∀ j x,(th r)[j]? =some x→xs[k+j]? =some (sR x))→AtI qn l (rc none) cxo own F (outs k) m st→
   (∀ n,off≤n→st.bx n=none)→yb<off→wb<off→hi≤off→st.bx yb=some (.v [lJ l])→st.bx wb=some (.v [.fn 77 [.ptr yb 0,.ptr wb 0]])→
   K (({st with bx:=aH st.bx (outs (k+(th r).length))}:St).set d (.t (.bool true)))→
   (∀ c cx' o',stop c cx' o'→K (({st with bx:=aH st.bx o',cx:=dj l (rc (some c)) cx' m }:St).set d (.t (.bool false))))→
   WCM Tryz.prog 77 [.t (sR r),.ptr yb 0,.ptr wb 0] d st K
 |0,r,hb=>by rw [wv] at hb;simp at hb
 |b+1,r,hb=>by
  intro hB k m off st d K hxs hA hfree hyo hwo hio hy hw hK hS
  have ih:=yt G yb wb hyb hwb b
  refine WCM.clean (fun hnb=>?_) (aZ Tryz.func77 rfl rfl)
  refine WCM.run Tryz.func77 Fz rfl off (nlZ rfl) ?_
  rw [k77]
  obtain ⟨kd,f,n,mm,args⟩:=r
  have hA1:=hA.enter [.t (sR (.mk kd f n mm args)),.ptr yb 0,.ptr wb 0] off
  have hf3:=hfree (3+off) (by omega)
  have hnm: ∀{k:Nat} {q:Nat},hi≤q→ ∀p∈outs k,p.1≠q:=fun h p hp e=>by have:=(G.nm _ p hp).1;omega
  have hnms: ∀{c cx o} {q:Nat},stop c cx o→hi≤q→ ∀p∈o,p.1≠q:=fun hs h p hp e=>by have:=(G.nms _ _ _ hs p hp).1;omega
  have hpl:(th (.mk kd f n mm args)).length=1+(sK args).length:=by rw [wv,List.length_cons];exact Nat.add_comm _ _
  rw [sD] at hA1 ⊢
  have endT: ∀(s2:St),s2.gh=c7 st.sl st.gh→s2.cx=dj l (rc none) cxo (m+1)→(∀ q, ¬q∈[3+off]→s2.bx q=aH st.bx (outs (k+(th (.mk kd f n mm args)).length)) q)→s2.sl 4= .t (.bool true)→
    qu Tryz.f77.results.toList st.off d (fun s=> ∃fr s',K s'∧DL.Clean st fr s s') .ret s2:=fun s2 h1 h2 h3 h4=>by
   refine ⟨[.t (.bool true)],st.cx,?_,by rw [h2,hA.cx];rfl,by rw [hA.cx];exact pX G.cxo_,[3+off],_,hK,?_⟩
   ·show (match s2.sl 4 with|u=>some [u])=_
    rw [h4]
   ·exact mu (by rw [h1];rfl) (fun j=>by rw [h1];rfl) h3 (fun q hq=>by rw [List.mem_singleton.1 hq];exact ⟨hf3,hnm (by omega)⟩) (G.sf (G.lvA hA.at_) _)
  have endF: ∀(c:Code) (cx':aa→World→Prop) (o':List (Nat×BX)) (s2:St),stop c cx' o'→s2.gh=c7 st.sl st.gh→s2.cx=dj l (rc (some c)) cx' (m+1)→(∀ q, ¬q∈[3+off]→s2.bx q=aH st.bx o' q)→s2.sl 4= .t (.bool false)→
    qu Tryz.f77.results.toList st.off d (fun s=> ∃fr s',K s'∧DL.Clean st fr s s') .ret s2:=fun c cx' o' s2 hs h1 h2 h3 h4=>by
   refine ⟨[.t (.bool false)],dj l (rc (some c)) cx' m,?_,h2,pX (G.cxd _ _ _ hs),[3+off],_,hS c cx' o' hs,?_⟩
   ·show (match s2.sl 4 with|u=>some [u])=_
    rw [h4]
   ·exact mu (by rw [h1];rfl) (fun j=>by rw [h1];rfl) h3 (fun q hq=>by rw [List.mem_singleton.1 hq];exact ⟨hf3,hnms hs (by omega)⟩) (G.sfs (G.lvA hA.at_) _ _ _ hs)
  generalize qu Tryz.f77.results.toList st.off d (fun s=> ∃fr s',K s'∧DL.Clean st fr s s')=nK at endT endF ⊢
  refine aG.seq (D9 (pL (rR (cs:=sj (.mk kd f n mm args)) rfl rfl hf3 (rZ rfl (qK ?_)))))
  refine aG.seq (aG.seq (EZ (rS (b:=yb) rfl ((ae _ _ _ _ (show yb≠3+off by omega)).trans hy) rfl (rT (b:=3+off) rfl (af _ _ _) (qK (rJ rfl rfl ?_))))))
  have hx0:xs[k]? =some (T.agg (sj (.mk kd f n mm args))):=by rw [← sD];exact hxs 0 _ (by rw [wv];rfl)
  refine G.yld qn k _ (m+1) _ _ _ hx0 (hA1.of rfl rfl (fun q h1=>ae _ _ _ _ (show q≠3+off by have:=G.fh q h1;omega)) (fun p hp=>(ae _ _ _ _ (hnm (show hi≤3+off by omega) p hp)).trans (hA1.at_ p hp)) ⟨off+4,fun q hq=>(ae _ _ _ _ (show q≠3+off by omega)).trans (hfree q (by omega))⟩) ?t (fun c cx' o' hs=> ?f)
  case f=>
   refine r6 rfl (qK ?_)
   refine BP (rD rfl (qY (rZ rfl (qK (rG ?_)))))
   refine endF c cx' o' _ hs rfl rfl (fun q hq=>?_) rfl
   exact oQ (ae _ _ _ _ (show q≠3+off from fun e=>hq (by rw [e];simp))) o'
  case t=>
  refine r6 rfl (qK ?_)
  refine BP (rC rfl (rH ?_))
  let b1:Nat→Option BX:=upd st.bx (3+off) (some (.d 5 (sj (.mk kd f n mm args))))
  have hb13: ∀{k:Nat},aH b1 (outs k) (3+off)=some (.d 5 (sj (.mk kd f n mm args))):=(eV (hnm (by omega))).trans (af _ _ _)
  refine aG.seq (aG.seq (Ei (pL (rB (b:=3+off) (off:=0) rfl (rV (b:=3+off) (off:=0+4) rfl hb13 (by decide) rfl (rX (xs:=args.map sR) (n:=5) rfl (rZ rfl (qK ?_))))))))
  refine aG.block (aG.rP (fun μ s=> ∃j sl,μ=args.length - j∧j≤args.length∧s={sl:=sl,bx:=aH b1 (outs (k+1+(sK (args.take j)).length)),gh:=c7 st.sl st.gh,off:=off,cx:=dj l (rc none) cxo (m+1)}∧sl 1= .ptr yb 0∧sl 2= .ptr wb 0∧sl 12= .t (.slice 5 (args.map sR))∧sl 13= .t (I args.length)∧sl 14= .t (I j)) args.length ?_ ?_)
  ·exact ⟨0,_,by omega,by omega,St.ext' rfl rfl rfl rfl hA1.cx,rfl,rfl,rfl,by show V.t (.int .i64 ((args.map sR).length:Int))=_;rw [List.length_map],rfl⟩
  rintro μ s ⟨j,sl,rfl,hj,rfl,e1,e2,e12,e13,e14⟩
  refine aG.clean (fun _=>?_)
  refine aG.seq (El (pL (rY (a:=j) (b:=args.length) e14 e13 (qK ?_))))
  by_cases hlt:j<args.length
  case neg=>
   refine aG.seq (BR (rC (by show V.t (.bool (decide ((j:Int)<(args.length:Int))))=_;rw [decide_eq_false (by omega)]) (rE ?_)))
   refine ⟨[],{sl:=upd sl 15 .top,bx:=aH b1 (outs (k+1+(sK (args.take j)).length)),gh:=c7 st.sl st.gh,off:=off,cx:=dj l (rc none) cxo (m+1)},?_,⟨fun q=>?_,⟨rfl,rfl⟩,rfl,rfl,fun q=>rfl,fun q _=>Or.inl rfl,fun q h=>h,by simp⟩⟩
   ·refine C5 (qY (rZ rfl (qK (rG ?_))))
    refine endT _ rfl rfl (fun q hq=>?_) rfl
    have hjl:j=args.length:=by omega
    show aH b1 (outs (k+1+(sK (args.take j)).length)) q=_
    rw [hjl,List.take_length,hpl,Nat.add_assoc]
    exact oQ (ae _ _ _ _ (fun e=>hq (by rw [e];simp))) _
   ·by_cases h:q=15
    ·subst h;exact Or.inl (show upd sl 15 V.top 15=V.top from af _ _ _)
    ·have h1:upd sl 15 V.top q=sl q:=ae _ _ _ _ h
     exact Or.inr ⟨h1.trans (show sl q=upd sl 15 _ q from (ae _ _ _ _ h).symm),Or.inl h1⟩
  refine aG.seq (BR (rD (by show V.t (.bool (decide ((j:Int)<(args.length:Int))))=_;rw [decide_eq_true (by omega)]) (rH ?_)))
  have hv:(args.map sR)[((j:Int)).toNat]?.getD .nil=T.agg (sj args[j]):=by
   rw [Int.toNat_natCast,List.getElem?_map,ggZ hlt]
   show sR args[j]=_
   exact sD _
  have hf6: ∀{k:Nat},aH b1 (outs k) (6+off)=none:=(eV (hnm (by omega))).trans ((ae _ _ _ _ (by omega)).trans (hfree _ (by omega)))
  have hpt:=yi hlt
  have hpg:=fun i x=>@A3 args j i x hlt
  have hpm:=A4 hlt
  have hcl:=sQ args[j]
  have hec:=sD args[j]
  generalize args[j]=aj at hv hpt hpg hpm hcl hec
  refine aG.seq (aG.block (aG.seq (Eo (pL (rz (xs:=args.map sR) (k:=(j:Int)) e12 e14 ⟨by omega,by rw [List.length_map];omega⟩ hv (rU (cs:=sj aj) rfl hcl (pK hf6 (qW (b:=6+off) (off:=0) rfl (af _ _ _) rfl ⟨hcl,Nat.le_refl _⟩ (qK ?_)))))))))
  have hbo: ∀{x y:Option BX} {q k:Nat},q≠6+off→upd (upd (aH b1 (outs k)) (6+off) x) (6+off) y q=aH b1 (outs k) q:=fun h=>(ae _ _ _ _ h).trans (ae _ _ _ _ h)
  have hbo2: ∀{k q:Nat},hi≤q→q≠3+off→aH b1 (outs k) q=st.bx q:=fun h h'=>(eV (hnm h)).trans (ae _ _ _ _ h')
  refine aG.seq (Fa (rS (b:=wb) e2 ((hbo (by omega)).trans ((hbo2 hwb (by omega)).trans hw)) rfl (rT (b:=6+off) rfl (af _ _ _) (qK (rI (us':=[.t (sR aj),.ptr yb 0,.ptr wb 0]) rfl (by
   show [V.t (.agg (aJ [.int .i64 0,.str ⟨#[]⟩,.int .i64 0,.int .i64 0,.nil] 0 5 (sj aj))),V.ptr yb 0,V.ptr wb 0]=_
   rw [mG (n:=5) rfl,hec]) ?_)))))
  refine ih aj (by omega) (by omega) (k+1+(sK (args.take j)).length) (m+1) (off+7) _ _ _ (fun i x hx=>?_) (hA1.of hA1.cx.symm rfl (fun q h1=>?_) (fun p hp=>?_) ⟨off+7,fun q hq=>?_⟩) (fun q hq=>?_) (by omega) (by omega) (by omega) ?_ ?_ ?t (fun c cx' o' hs=> ?f)
  ·rw [Nat.add_assoc,Nat.add_assoc]
   refine hxs _ x ?_
   rw [wv,Nat.add_comm,List.getElem?_cons_succ]
   exact hpg i x hx
  ·have hq1:=G.fh q h1
   exact (hbo (by omega)).trans ((eV (fun p hp e=>(G.nm _ p hp).2 (by rw [e];exact h1))).trans (ae _ _ _ _ (by omega)))
  ·exact (hbo (hnm (show hi≤6+off by omega) p hp)).trans (mg (G.nd _) hp)
  ·exact (hbo (by omega)).trans ((hbo2 (by omega) (by omega)).trans (hfree q (by omega)))
  ·exact (hbo (by omega)).trans ((hbo2 (by omega) (by omega)).trans (hfree q (by omega)))
  ·exact (hbo (by omega)).trans ((hbo2 hyb (by omega)).trans hy)
  ·exact (hbo (by omega)).trans ((hbo2 hwb (by omega)).trans hw)
  case f=>
   refine r6 rfl (qK ?_)
   refine BU (rD rfl (qY (rZ rfl (qK (rG ?_)))))
   refine ⟨[6+off],{sl:=fun n=>cond (Nat.beq n 4) (.t (.bool false)) .top,bx:=aH (aH b1 (outs (k+1+(sK (args.take j)).length))) o',gh:=c7 st.sl st.gh,off:=off,cx:=dj l (rc (some c)) cx' (m+1)},endF c cx' o' _ hs rfl rfl (fun q hq=>?_) rfl,?_⟩
   ·show aH (aH b1 (outs _)) o' q=_
    rw [qM (G.covs _ _ _ hs _)]
    exact oQ (ae _ _ _ _ (fun e=>hq (by rw [e];simp))) _
   ·refine mR (fun q=>?_) rfl (fun q hq=>oQ (hbo (fun e=>hq (by rw [e];simp))) o') (fun q hq=>?_) (G.sfs (G.lvU _ _) _ _ _ hs)
    ·by_cases h:q=4
     ·subst h;exact Or.inr ⟨rfl,Or.inr (.t _)⟩
     ·refine Or.inl ?_
      show cond (Nat.beq q 4) _ _=_
      rw [eL h];rfl
    ·rw [List.mem_singleton.1 hq]
     exact ⟨hf6,hnms hs (by omega)⟩
  case t=>
   refine r6 rfl (qK ?_)
   refine BU (rC rfl (rH ?_))
   have hge:=zn args
   have hw1:IntKind.i64.wrap ((j:Int)+1)=((j+1:Nat):Int):=by rw [mj (by omega) (by omega)];rfl
   refine Er (pL (rQ (a:=(j:Int)) (b:=1) e14 rfl hw1 (rZ rfl (qK ?_))))
   have hix:k+1+(sK (args.take j)).length+(th aj).length=k+1+(sK (args.take (j+1))).length:=by rw [hpt,List.length_append];omega
   refine ⟨[6+off],{sl:=upd (fun n=>cond (Nat.beq n 1||Nat.beq n 2||Nat.beq n 12||Nat.beq n 13) (sl n) .top) 14 (.t (I (j+1:Nat))),bx:=aH (aH b1 (outs (k+1+(sK (args.take j)).length))) (outs (k+1+(sK (args.take j)).length+(th aj).length)),gh:=c7 st.sl st.gh,off:=off,cx:=dj l (rc none) cxo (m+1)},⟨args.length - (j+1),by omega,j+1,_,rfl,by omega,St.ext' rfl ((qM (G.cov _ _)).trans (congrArg (fun i=>aH b1 (outs i)) hix)) rfl rfl rfl,e1,e2,e12,e13,rfl⟩,?_⟩
   refine mR (fun q=>?_) rfl (fun q hq=>oQ (hbo (fun e=>hq (by rw [e];simp))) _) (fun q hq=>?_) (G.sf (G.lvU _ _) _)
   ·by_cases h14:q=14
    ·subst h14;exact Or.inr ⟨rfl,Or.inr (.t _)⟩
    by_cases h1:q=1
    ·subst h1;exact Or.inr ⟨by (conv=>lhs;whnf);(conv=>rhs;whnf),Or.inl rfl⟩
    by_cases h2:q=2
    ·subst h2;exact Or.inr ⟨by (conv=>lhs;whnf);(conv=>rhs;whnf),Or.inl rfl⟩
    by_cases h12:q=12
    ·subst h12;exact Or.inr ⟨by (conv=>lhs;whnf);(conv=>rhs;whnf),Or.inl rfl⟩
    by_cases h13:q=13
    ·subst h13;exact Or.inr ⟨by (conv=>lhs;whnf);(conv=>rhs;whnf),Or.inl rfl⟩
    refine Or.inl ?_
    show upd _ 14 _ q=_
    rw [ae _ _ _ _ h14]
    show cond (Nat.beq q 1||Nat.beq q 2||Nat.beq q 12||Nat.beq q 13) _ _=_
    rw [eL h1,eL h2,eL h12,eL h13];rfl
   ·rw [List.mem_singleton.1 hq]
    exact ⟨hf6,hnm (by omega)⟩
end
end Go.TY
end
section
namespace Go.TY
open Go Go.DL Go.MM Go.Proofs
attribute [local irreducible] aG gM WCM YC
section
variable [Glb]
theorem yr {l:Nat} {rc:Option Code→Loop} {cxo:aa→World→Prop} {own:St} {F:Nat→Prop} {hi:Nat} {xs:List T} {outs:Nat→List (Nat×BX)} {stop:Code→(aa→World→Prop)→List (Nat×BX)→Prop} (G:dF Tryz.prog l rc cxo own F hi xs outs stop) (yb wb:Nat) (hyb:hi≤yb) (hwb:hi≤wb):
  ∀(b:Nat) (r:RO),(sn r).length≤b→b<2^60→ ∀(k m off:Nat) (st:St) (d:Option Nat) (K:St→Prop),(∀ j x,(sn r)[j]? =some x→xs[k+j]? =some (se x))→AtI qn l (rc none) cxo own F (outs k) m st→
   (∀ n,off≤n→st.bx n=none)→yb<off→wb<off→hi≤off→st.bx yb=some (.v [lJ l])→st.bx wb=some (.v [.fn 51 [.ptr yb 0,.ptr wb 0]])→
   K (({st with bx:=aH st.bx (outs (k+(sn r).length))}:St).set d (.t (.bool true)))→
   (∀ c cx' o',stop c cx' o'→K (({st with bx:=aH st.bx o',cx:=dj l (rc (some c)) cx' m }:St).set d (.t (.bool false))))→
   WCM Tryz.prog 51 [.t (se r),.ptr yb 0,.ptr wb 0] d st K
 |0,r,hb=>by rw [wu] at hb;simp at hb
 |b+1,r,hb=>by
  intro hB k m off st d K hxs hA hfree hyo hwo hio hy hw hK hS
  have ih:=yr G yb wb hyb hwb b
  refine WCM.clean (fun hnb=>?_) (aZ Tryz.func51 rfl rfl)
  refine WCM.run Tryz.func51 Fx rfl off (nlZ rfl) ?_
  rw [k51]
  obtain ⟨kd,f,n,mm,args⟩:=r
  have hA1:=hA.enter [.t (se (.mk kd f n mm args)),.ptr yb 0,.ptr wb 0] off
  have hf3:=hfree (3+off) (by omega)
  have hnm: ∀{k:Nat} {q:Nat},hi≤q→ ∀p∈outs k,p.1≠q:=fun h p hp e=>by have:=(G.nm _ p hp).1;omega
  have hnms: ∀{c cx o} {q:Nat},stop c cx o→hi≤q→ ∀p∈o,p.1≠q:=fun hs h p hp e=>by have:=(G.nms _ _ _ hs p hp).1;omega
  have hpl:(sn (.mk kd f n mm args)).length=1+(sI args).length:=by rw [wu,List.length_cons];exact Nat.add_comm _ _
  rw [s7] at hA1 ⊢
  have endT: ∀(s2:St),s2.gh=c7 st.sl st.gh→s2.cx=dj l (rc none) cxo (m+1)→(∀ q, ¬q∈[3+off]→s2.bx q=aH st.bx (outs (k+(sn (.mk kd f n mm args)).length)) q)→s2.sl 4= .t (.bool true)→
    qu Tryz.f51.results.toList st.off d (fun s=> ∃fr s',K s'∧DL.Clean st fr s s') .ret s2:=fun s2 h1 h2 h3 h4=>by
   refine ⟨[.t (.bool true)],st.cx,?_,by rw [h2,hA.cx];rfl,by rw [hA.cx];exact pX G.cxo_,[3+off],_,hK,?_⟩
   ·show (match s2.sl 4 with|u=>some [u])=_
    rw [h4]
   ·exact mu (by rw [h1];rfl) (fun j=>by rw [h1];rfl) h3 (fun q hq=>by rw [List.mem_singleton.1 hq];exact ⟨hf3,hnm (by omega)⟩) (G.sf (G.lvA hA.at_) _)
  have endF: ∀(c:Code) (cx':aa→World→Prop) (o':List (Nat×BX)) (s2:St),stop c cx' o'→s2.gh=c7 st.sl st.gh→s2.cx=dj l (rc (some c)) cx' (m+1)→(∀ q, ¬q∈[3+off]→s2.bx q=aH st.bx o' q)→s2.sl 4= .t (.bool false)→
    qu Tryz.f51.results.toList st.off d (fun s=> ∃fr s',K s'∧DL.Clean st fr s s') .ret s2:=fun c cx' o' s2 hs h1 h2 h3 h4=>by
   refine ⟨[.t (.bool false)],dj l (rc (some c)) cx' m,?_,h2,pX (G.cxd _ _ _ hs),[3+off],_,hS c cx' o' hs,?_⟩
   ·show (match s2.sl 4 with|u=>some [u])=_
    rw [h4]
   ·exact mu (by rw [h1];rfl) (fun j=>by rw [h1];rfl) h3 (fun q hq=>by rw [List.mem_singleton.1 hq];exact ⟨hf3,hnms hs (by omega)⟩) (G.sfs (G.lvA hA.at_) _ _ _ hs)
  generalize qu Tryz.f51.results.toList st.off d (fun s=> ∃fr s',K s'∧DL.Clean st fr s s')=nK at endT endF ⊢
  refine aG.seq (D7 (pL (rR (cs:=sP (.mk kd f n mm args)) rfl rfl hf3 (rZ rfl (qK ?_)))))
  refine aG.seq (aG.seq (EY (rS (b:=yb) rfl ((ae _ _ _ _ (show yb≠3+off by omega)).trans hy) rfl (rT (b:=3+off) rfl (af _ _ _) (qK (rJ rfl rfl ?_))))))
  have hx0:xs[k]? =some (T.agg (sP (.mk kd f n mm args))):=by rw [← s7];exact hxs 0 _ (by rw [wu];rfl)
  refine G.yld qn k _ (m+1) _ _ _ hx0 (hA1.of rfl rfl (fun q h1=>ae _ _ _ _ (show q≠3+off by have:=G.fh q h1;omega)) (fun p hp=>(ae _ _ _ _ (hnm (show hi≤3+off by omega) p hp)).trans (hA1.at_ p hp)) ⟨off+4,fun q hq=>(ae _ _ _ _ (show q≠3+off by omega)).trans (hfree q (by omega))⟩) ?t (fun c cx' o' hs=> ?f)
  case f=>
   refine r6 rfl (qK ?_)
   refine BO (rD rfl (qY (rZ rfl (qK (rG ?_)))))
   refine endF c cx' o' _ hs rfl rfl (fun q hq=>?_) rfl
   exact oQ (ae _ _ _ _ (show q≠3+off from fun e=>hq (by rw [e];simp))) o'
  case t=>
  refine r6 rfl (qK ?_)
  refine BO (rC rfl (rH ?_))
  let b1:Nat→Option BX:=upd st.bx (3+off) (some (.d 9 (sP (.mk kd f n mm args))))
  have hb13: ∀{k:Nat},aH b1 (outs k) (3+off)=some (.d 9 (sP (.mk kd f n mm args))):=(eV (hnm (by omega))).trans (af _ _ _)
  refine aG.seq (aG.seq (Eh (pL (rB (b:=3+off) (off:=0) rfl (rV (b:=3+off) (off:=0+8) rfl hb13 (by decide) rfl (rX (xs:=args.map se) (n:=9) rfl (rZ rfl (qK ?_))))))))
  refine aG.block (aG.rP (fun μ s=> ∃j sl,μ=args.length - j∧j≤args.length∧s={sl:=sl,bx:=aH b1 (outs (k+1+(sI (args.take j)).length)),gh:=c7 st.sl st.gh,off:=off,cx:=dj l (rc none) cxo (m+1)}∧sl 1= .ptr yb 0∧sl 2= .ptr wb 0∧sl 12= .t (.slice 9 (args.map se))∧sl 13= .t (I args.length)∧sl 14= .t (I j)) args.length ?_ ?_)
  ·exact ⟨0,_,by omega,by omega,St.ext' rfl rfl rfl rfl hA1.cx,rfl,rfl,rfl,by show V.t (.int .i64 ((args.map se).length:Int))=_;rw [List.length_map],rfl⟩
  rintro μ s ⟨j,sl,rfl,hj,rfl,e1,e2,e12,e13,e14⟩
  refine aG.clean (fun _=>?_)
  refine aG.seq (Ek (pL (rY (a:=j) (b:=args.length) e14 e13 (qK ?_))))
  by_cases hlt:j<args.length
  case neg=>
   refine aG.seq (BQ (rC (by show V.t (.bool (decide ((j:Int)<(args.length:Int))))=_;rw [decide_eq_false (by omega)]) (rE ?_)))
   refine ⟨[],{sl:=upd sl 15 .top,bx:=aH b1 (outs (k+1+(sI (args.take j)).length)),gh:=c7 st.sl st.gh,off:=off,cx:=dj l (rc none) cxo (m+1)},?_,⟨fun q=>?_,⟨rfl,rfl⟩,rfl,rfl,fun q=>rfl,fun q _=>Or.inl rfl,fun q h=>h,by simp⟩⟩
   ·refine C4 (qY (rZ rfl (qK (rG ?_))))
    refine endT _ rfl rfl (fun q hq=>?_) rfl
    have hjl:j=args.length:=by omega
    show aH b1 (outs (k+1+(sI (args.take j)).length)) q=_
    rw [hjl,List.take_length,hpl,Nat.add_assoc]
    exact oQ (ae _ _ _ _ (fun e=>hq (by rw [e];simp))) _
   ·by_cases h:q=15
    ·subst h;exact Or.inl (show upd sl 15 V.top 15=V.top from af _ _ _)
    ·have h1:upd sl 15 V.top q=sl q:=ae _ _ _ _ h
     exact Or.inr ⟨h1.trans (show sl q=upd sl 15 _ q from (ae _ _ _ _ h).symm),Or.inl h1⟩
  refine aG.seq (BQ (rD (by show V.t (.bool (decide ((j:Int)<(args.length:Int))))=_;rw [decide_eq_true (by omega)]) (rH ?_)))
  have hv:(args.map se)[((j:Int)).toNat]?.getD .nil=T.agg (sP args[j]):=by
   rw [Int.toNat_natCast,List.getElem?_map,ggZ hlt]
   show se args[j]=_
   exact s7 _
  have hf6: ∀{k:Nat},aH b1 (outs k) (6+off)=none:=(eV (hnm (by omega))).trans ((ae _ _ _ _ (by omega)).trans (hfree _ (by omega)))
  have hpt:=yh hlt
  have hpg:=fun i x=>@AZ args j i x hlt
  have hpm:=A0 hlt
  have hcl:=tz args[j]
  have hec:=s7 args[j]
  generalize args[j]=aj at hv hpt hpg hpm hcl hec
  refine aG.seq (aG.block (aG.seq (En (pL (rz (xs:=args.map se) (k:=(j:Int)) e12 e14 ⟨by omega,by rw [List.length_map];omega⟩ hv (rU (cs:=sP aj) rfl hcl (pK hf6 (qW (b:=6+off) (off:=0) rfl (af _ _ _) rfl ⟨hcl,Nat.le_refl _⟩ (qK ?_)))))))))
  have hbo: ∀{x y:Option BX} {q k:Nat},q≠6+off→upd (upd (aH b1 (outs k)) (6+off) x) (6+off) y q=aH b1 (outs k) q:=fun h=>(ae _ _ _ _ h).trans (ae _ _ _ _ h)
  have hbo2: ∀{k q:Nat},hi≤q→q≠3+off→aH b1 (outs k) q=st.bx q:=fun h h'=>(eV (hnm h)).trans (ae _ _ _ _ h')
  refine aG.seq (E9 (rS (b:=wb) e2 ((hbo (by omega)).trans ((hbo2 hwb (by omega)).trans hw)) rfl (rT (b:=6+off) rfl (af _ _ _) (qK (rI (us':=[.t (se aj),.ptr yb 0,.ptr wb 0]) rfl (by
   show [V.t (.agg (aJ [.int .i64 0,.int .i64 0,.str ⟨#[]⟩,.int .i64 0,.int .i64 0,.nil,.str ⟨#[]⟩,.int .i64 0,.nil] 0 9 (sP aj))),V.ptr yb 0,V.ptr wb 0]=_
   rw [mG (n:=9) rfl,hec]) ?_)))))
  refine ih aj (by omega) (by omega) (k+1+(sI (args.take j)).length) (m+1) (off+7) _ _ _ (fun i x hx=>?_) (hA1.of hA1.cx.symm rfl (fun q h1=>?_) (fun p hp=>?_) ⟨off+7,fun q hq=>?_⟩) (fun q hq=>?_) (by omega) (by omega) (by omega) ?_ ?_ ?t (fun c cx' o' hs=> ?f)
  ·rw [Nat.add_assoc,Nat.add_assoc]
   refine hxs _ x ?_
   rw [wu,Nat.add_comm,List.getElem?_cons_succ]
   exact hpg i x hx
  ·have hq1:=G.fh q h1
   exact (hbo (by omega)).trans ((eV (fun p hp e=>(G.nm _ p hp).2 (by rw [e];exact h1))).trans (ae _ _ _ _ (by omega)))
  ·exact (hbo (hnm (show hi≤6+off by omega) p hp)).trans (mg (G.nd _) hp)
  ·exact (hbo (by omega)).trans ((hbo2 (by omega) (by omega)).trans (hfree q (by omega)))
  ·exact (hbo (by omega)).trans ((hbo2 (by omega) (by omega)).trans (hfree q (by omega)))
  ·exact (hbo (by omega)).trans ((hbo2 hyb (by omega)).trans hy)
  ·exact (hbo (by omega)).trans ((hbo2 hwb (by omega)).trans hw)
  case f=>
   refine r6 rfl (qK ?_)
   refine BT (rD rfl (qY (rZ rfl (qK (rG ?_)))))
   refine ⟨[6+off],{sl:=fun n=>cond (Nat.beq n 4) (.t (.bool false)) .top,bx:=aH (aH b1 (outs (k+1+(sI (args.take j)).length))) o',gh:=c7 st.sl st.gh,off:=off,cx:=dj l (rc (some c)) cx' (m+1)},endF c cx' o' _ hs rfl rfl (fun q hq=>?_) rfl,?_⟩
   ·show aH (aH b1 (outs _)) o' q=_
    rw [qM (G.covs _ _ _ hs _)]
    exact oQ (ae _ _ _ _ (fun e=>hq (by rw [e];simp))) _
   ·refine mR (fun q=>?_) rfl (fun q hq=>oQ (hbo (fun e=>hq (by rw [e];simp))) o') (fun q hq=>?_) (G.sfs (G.lvU _ _) _ _ _ hs)
    ·by_cases h:q=4
     ·subst h;exact Or.inr ⟨rfl,Or.inr (.t _)⟩
     ·refine Or.inl ?_
      show cond (Nat.beq q 4) _ _=_
      rw [eL h];rfl
    ·rw [List.mem_singleton.1 hq]
     exact ⟨hf6,hnms hs (by omega)⟩
  case t=>
   refine r6 rfl (qK ?_)
   refine BT (rC rfl (rH ?_))
   have hge:=zm args
   have hw1:IntKind.i64.wrap ((j:Int)+1)=((j+1:Nat):Int):=by rw [mj (by omega) (by omega)];rfl
   refine Ep (pL (rQ (a:=(j:Int)) (b:=1) e14 rfl hw1 (rZ rfl (qK ?_))))
   have hix:k+1+(sI (args.take j)).length+(sn aj).length=k+1+(sI (args.take (j+1))).length:=by rw [hpt,List.length_append];omega
   refine ⟨[6+off],{sl:=upd (fun n=>cond (Nat.beq n 1||Nat.beq n 2||Nat.beq n 12||Nat.beq n 13) (sl n) .top) 14 (.t (I (j+1:Nat))),bx:=aH (aH b1 (outs (k+1+(sI (args.take j)).length))) (outs (k+1+(sI (args.take j)).length+(sn aj).length)),gh:=c7 st.sl st.gh,off:=off,cx:=dj l (rc none) cxo (m+1)},⟨args.length - (j+1),by omega,j+1,_,rfl,by omega,St.ext' rfl ((qM (G.cov _ _)).trans (congrArg (fun i=>aH b1 (outs i)) hix)) rfl rfl rfl,e1,e2,e12,e13,rfl⟩,?_⟩
   refine mR (fun q=>?_) rfl (fun q hq=>oQ (hbo (fun e=>hq (by rw [e];simp))) _) (fun q hq=>?_) (G.sf (G.lvU _ _) _)
   ·by_cases h14:q=14
    ·subst h14;exact Or.inr ⟨rfl,Or.inr (.t _)⟩
    by_cases h1:q=1
    ·subst h1;exact Or.inr ⟨by (conv=>lhs;whnf);(conv=>rhs;whnf),Or.inl rfl⟩
    by_cases h2:q=2
    ·subst h2;exact Or.inr ⟨by (conv=>lhs;whnf);(conv=>rhs;whnf),Or.inl rfl⟩
    by_cases h12:q=12
    ·subst h12;exact Or.inr ⟨by (conv=>lhs;whnf);(conv=>rhs;whnf),Or.inl rfl⟩
    by_cases h13:q=13
    ·subst h13;exact Or.inr ⟨by (conv=>lhs;whnf);(conv=>rhs;whnf),Or.inl rfl⟩
    refine Or.inl ?_
    show upd _ 14 _ q=_
    rw [ae _ _ _ _ h14]
    show cond (Nat.beq q 1||Nat.beq q 2||Nat.beq q 12||Nat.beq q 13) _ _=_
    rw [eL h1,eL h2,eL h12,eL h13];rfl
   ·rw [List.mem_singleton.1 hq]
    exact ⟨hf6,hnm (by omega)⟩
end
end Go.TY
end
section
namespace Go.TY
open Go Go.DL Go.MM Go.Proofs
attribute [local irreducible] aG gM WCM YC
section
variable [Glb]
theorem zH {N:Nat} {st:St} {g:Operand} {y:O} {p:Nat} {asg body:Code} (hg:al g=some y) (r:RP) (hv:ev st.sl y= .t (.clos 76 [.cptr (sj r) 0])) (off:Nat) (F:Nat→Prop) (hi:Nat) (hio:hi≤off) (hB:(th r).length<2^59) (hfl: ∀n,F n→st.bx n=none) (hfo: ∀n,off≤n→st.bx n=none) (hcn:CxN st.cx)
  {outs:Nat→List (Nat×BX)} {stop:Code→(aa→World→Prop)→List (Nat×BX)→Prop} {Q:av→St→Prop} (h0: ∀q∈outs 0,st.bx q.1=some q.2)
  (hG: ∀(l D:Nat) (fn:FuncId) (tmps:Array Value),tmps.size=N→dF Tryz.prog l (rcE fn tmps p asg body D) st.cx st F hi ((th r).map sR) outs stop)
  (hend:Q .normal {st with bx:=aH st.bx (outs (th r).length)})
  (hstop: ∀c cx' o',stop c cx' o'→(c= .ret∧Q .ret {st with bx:=aH st.bx o',cx:=cx' })∨ ∃id,c= .exit id∧Q (.exit id) {st with bx:=aH st.bx o',cx:=cx' }):
  aG Tryz.prog N (.rangeFunc g #[p] asg body) st Q:=by
 refine aG.clean (fun _=>?_)
 refine aG.range (N:=N) hg (gf:=76) (caps:=[.t (.cptr (sj r) 0)]) (by rw [hv];rfl) Tryz.func76 Fy rfl rfl (nlZ rfl) off hcn (fun l D fn tmps hN=>?_)
 have G:=hG l D fn tmps hN
 rw [k76]
 have hA:AtI qn l (rcE fn tmps p asg body D none) st.cx st F (outs 0) 0 (st.itr l [.t (.cptr (sj r) 0)] off (rdy fn tmps p asg body D)):=
  ⟨rfl,rfl,fun j=>by
   show c7 st.sl st.gh (0+0+1+j)=_
   rw [show 0+0+1+j=j+1 by omega];rfl,h0,hfl,off,hfo⟩
 have hnm: ∀{k:Nat} {q:Nat},hi≤q→ ∀p∈outs k,p.1≠q:=fun h p hp e=>by have:=(G.nm _ p hp).1;omega
 have hnms: ∀{c cx o} {q:Nat},stop c cx o→hi≤q→ ∀p∈o,p.1≠q:=fun hs h p hp e=>by have:=(G.nms _ _ _ hs p hp).1;omega
 have hf2:st.bx (2+off)=none:=hfo _ (by omega)
 have hf3:st.bx (3+off)=none:=hfo _ (by omega)
 have fin: ∀{s2:St} {o:List (Nat×BX)} {cx:aa→World→Prop},s2.gh=c7 st.sl st.gh→(∀ q, ¬q∈[2+off,3+off]→s2.bx q=aH st.bx o q)→(∀ q∈[2+off,3+off], ∀p∈o,p.1≠q)→(∀ p∈o,bm (fun n=>(st.bx n).isSome=true) p.2)→
   DL.Clean st [2+off,3+off] (s2.bp st.off cx) {st with bx:=aH st.bx o,cx:=cx }:=fun h1 h2 h3 h4=>
  mu (d:=none) (v:=.nil) (by rw [h1];rfl) (fun j=>by rw [h1];rfl) h2 (fun q hq=>⟨by
   rcases List.mem_cons.1 hq with rfl|hq
   ·exact hf2
   ·rw [List.mem_singleton.1 hq];exact hf3,h3 q hq⟩) h4
 refine aG.seq (D8 (pL (rv (v:=.func (.yield l) #[] #[]) rfl hf2 (qK ?_))))
 refine aG.seq (Ec (pL (pK ((ae _ _ _ _ (show 3+off≠2+off by omega)).trans hf3) (qK ?_))))
 refine aG.seq (Ef (pL (rA rfl (r7 (b:=3+off) rfl (af _ _ _) rfl (qK ?_)))))
 have hbo: ∀{x y z:Option BX} {q:Nat},q≠2+off→q≠3+off→upd (upd (upd st.bx (2+off) x) (3+off) y) (3+off) z q=st.bx q:=fun h1 h2=>(ae _ _ _ _ h2).trans ((ae _ _ _ _ h2).trans (ae _ _ _ _ h1))
 have h23:2+off≠3+off:=by omega
 have hq2: ∀q, ¬q∈[2+off,3+off]→q≠2+off∧q≠3+off:=fun q h=>⟨fun e=>h (by rw [e];simp),fun e=>h (by rw [e];simp)⟩
 refine E7 (rS (b:=3+off) rfl (af _ _ _) rfl (rU (cs:=sj r) rfl (sQ r) (qK (rI (us':=[.t (sR r),.ptr (2+off) 0,.ptr (3+off) 0]) rfl (by rw [sD];rfl) ?_))))
 refine yt G (2+off) (3+off) (by omega) (by omega) (th r).length r (Nat.le_refl _) (by omega) 0 0 (off+4) _ _ _ (fun j x hx=>by rw [Nat.zero_add,List.getElem?_map,hx];rfl) (hA.of rfl rfl (fun q h1=>hbo (by have:=G.fh q h1;omega) (by have:=G.fh q h1;omega)) (fun q hq=>(hbo (hnm (by omega) q hq) (hnm (by omega) q hq)).trans (h0 q hq)) ⟨off+4,fun q hq=>(hbo (by omega) (by omega)).trans (hfo q (by omega))⟩)
  (fun q hq=>(hbo (by omega) (by omega)).trans (hfo q (by omega))) (by omega) (by omega) (by omega) ((ae _ _ _ _ h23).trans ((ae _ _ _ _ h23).trans (af _ _ _))) (af _ _ _) ?t (fun c cx' o' hs=> ?f)
 case t=>
  refine qK ⟨none,st.cx,rfl,G.cxo_,[2+off,3+off],_,?_,fin (o:=outs (th r).length) rfl (fun q hq=>?_) (fun q hq=>hnm (by
   rcases List.mem_cons.1 hq with rfl|hq
   ·omega
   ·rw [List.mem_singleton.1 hq];omega)) (G.sf (G.lvA h0) _)⟩
  ·exact hend
  ·show aH _ (outs (0+(th r).length)) q=_
   rw [Nat.zero_add]
   exact oQ (hbo (hq2 q hq).1 (hq2 q hq).2) _
 case f=>
  rcases hstop c cx' o' hs with ⟨rfl,hq⟩|⟨id,rfl,hq⟩
  all_goals
   refine qK ⟨some _,cx',rfl,G.cxd _ _ _ hs,[2+off,3+off],_,hq,fin (o:=o') rfl (fun q hq=>?_) (fun q hq=>hnms hs (by
    rcases List.mem_cons.1 hq with rfl|hq
    ·omega
    ·rw [List.mem_singleton.1 hq];omega)) (G.sfs (G.lvA h0) _ _ _ hs)⟩
   exact oQ (hbo (hq2 q hq).1 (hq2 q hq).2) _
theorem xM {N:Nat} {st:St} {g:Operand} {y:O} {p:Nat} {asg body:Code} (hg:al g=some y) (r:RO) (hv:ev st.sl y= .t (.clos 50 [.cptr (sP r) 0])) (off:Nat) (F:Nat→Prop) (hi:Nat) (hio:hi≤off) (hB:(sn r).length<2^59) (hfl: ∀n,F n→st.bx n=none) (hfo: ∀n,off≤n→st.bx n=none) (hcn:CxN st.cx)
  {outs:Nat→List (Nat×BX)} {stop:Code→(aa→World→Prop)→List (Nat×BX)→Prop} {Q:av→St→Prop} (h0: ∀q∈outs 0,st.bx q.1=some q.2)
  (hG: ∀(l D:Nat) (fn:FuncId) (tmps:Array Value),tmps.size=N→dF Tryz.prog l (rcE fn tmps p asg body D) st.cx st F hi ((sn r).map se) outs stop)
  (hend:Q .normal {st with bx:=aH st.bx (outs (sn r).length)})
  (hstop: ∀c cx' o',stop c cx' o'→(c= .ret∧Q .ret {st with bx:=aH st.bx o',cx:=cx' })∨ ∃id,c= .exit id∧Q (.exit id) {st with bx:=aH st.bx o',cx:=cx' }):
  aG Tryz.prog N (.rangeFunc g #[p] asg body) st Q:=by
 refine aG.clean (fun _=>?_)
 refine aG.range (N:=N) hg (gf:=50) (caps:=[.t (.cptr (sP r) 0)]) (by rw [hv];rfl) Tryz.func50 Fw rfl rfl (nlZ rfl) off hcn (fun l D fn tmps hN=>?_)
 have G:=hG l D fn tmps hN
 rw [k50]
 have hA:AtI qn l (rcE fn tmps p asg body D none) st.cx st F (outs 0) 0 (st.itr l [.t (.cptr (sP r) 0)] off (rdy fn tmps p asg body D)):=
  ⟨rfl,rfl,fun j=>by
   show c7 st.sl st.gh (0+0+1+j)=_
   rw [show 0+0+1+j=j+1 by omega];rfl,h0,hfl,off,hfo⟩
 have hnm: ∀{k:Nat} {q:Nat},hi≤q→ ∀p∈outs k,p.1≠q:=fun h p hp e=>by have:=(G.nm _ p hp).1;omega
 have hnms: ∀{c cx o} {q:Nat},stop c cx o→hi≤q→ ∀p∈o,p.1≠q:=fun hs h p hp e=>by have:=(G.nms _ _ _ hs p hp).1;omega
 have hf2:st.bx (2+off)=none:=hfo _ (by omega)
 have hf3:st.bx (3+off)=none:=hfo _ (by omega)
 have fin: ∀{s2:St} {o:List (Nat×BX)} {cx:aa→World→Prop},s2.gh=c7 st.sl st.gh→(∀ q, ¬q∈[2+off,3+off]→s2.bx q=aH st.bx o q)→(∀ q∈[2+off,3+off], ∀p∈o,p.1≠q)→(∀ p∈o,bm (fun n=>(st.bx n).isSome=true) p.2)→
   DL.Clean st [2+off,3+off] (s2.bp st.off cx) {st with bx:=aH st.bx o,cx:=cx }:=fun h1 h2 h3 h4=>
  mu (d:=none) (v:=.nil) (by rw [h1];rfl) (fun j=>by rw [h1];rfl) h2 (fun q hq=>⟨by
   rcases List.mem_cons.1 hq with rfl|hq
   ·exact hf2
   ·rw [List.mem_singleton.1 hq];exact hf3,h3 q hq⟩) h4
 refine aG.seq (D6 (pL (rv (v:=.func (.yield l) #[] #[]) rfl hf2 (qK ?_))))
 refine aG.seq (Eb (pL (pK ((ae _ _ _ _ (show 3+off≠2+off by omega)).trans hf3) (qK ?_))))
 refine aG.seq (Ee (pL (rA rfl (r7 (b:=3+off) rfl (af _ _ _) rfl (qK ?_)))))
 have hbo: ∀{x y z:Option BX} {q:Nat},q≠2+off→q≠3+off→upd (upd (upd st.bx (2+off) x) (3+off) y) (3+off) z q=st.bx q:=fun h1 h2=>(ae _ _ _ _ h2).trans ((ae _ _ _ _ h2).trans (ae _ _ _ _ h1))
 have h23:2+off≠3+off:=by omega
 have hq2: ∀q, ¬q∈[2+off,3+off]→q≠2+off∧q≠3+off:=fun q h=>⟨fun e=>h (by rw [e];simp),fun e=>h (by rw [e];simp)⟩
 refine E0 (rS (b:=3+off) rfl (af _ _ _) rfl (rU (cs:=sP r) rfl (tz r) (qK (rI (us':=[.t (se r),.ptr (2+off) 0,.ptr (3+off) 0]) rfl (by rw [s7];rfl) ?_))))
 refine yr G (2+off) (3+off) (by omega) (by omega) (sn r).length r (Nat.le_refl _) (by omega) 0 0 (off+4) _ _ _ (fun j x hx=>by rw [Nat.zero_add,List.getElem?_map,hx];rfl) (hA.of rfl rfl (fun q h1=>hbo (by have:=G.fh q h1;omega) (by have:=G.fh q h1;omega)) (fun q hq=>(hbo (hnm (by omega) q hq) (hnm (by omega) q hq)).trans (h0 q hq)) ⟨off+4,fun q hq=>(hbo (by omega) (by omega)).trans (hfo q (by omega))⟩)
  (fun q hq=>(hbo (by omega) (by omega)).trans (hfo q (by omega))) (by omega) (by omega) (by omega) ((ae _ _ _ _ h23).trans ((ae _ _ _ _ h23).trans (af _ _ _))) (af _ _ _) ?t (fun c cx' o' hs=> ?f)
 case t=>
  refine qK ⟨none,st.cx,rfl,G.cxo_,[2+off,3+off],_,?_,fin (o:=outs (sn r).length) rfl (fun q hq=>?_) (fun q hq=>hnm (by
   rcases List.mem_cons.1 hq with rfl|hq
   ·omega
   ·rw [List.mem_singleton.1 hq];omega)) (G.sf (G.lvA h0) _)⟩
  ·exact hend
  ·show aH _ (outs (0+(sn r).length)) q=_
   rw [Nat.zero_add]
   exact oQ (hbo (hq2 q hq).1 (hq2 q hq).2) _
 case f=>
  rcases hstop c cx' o' hs with ⟨rfl,hq⟩|⟨id,rfl,hq⟩
  all_goals
   refine qK ⟨some _,cx',rfl,G.cxd _ _ _ hs,[2+off,3+off],_,hq,fin (o:=o') rfl (fun q hq=>?_) (fun q hq=>hnms hs (by
    rcases List.mem_cons.1 hq with rfl|hq
    ·omega
    ·rw [List.mem_singleton.1 hq];omega)) (G.sfs (G.lvA h0) _ _ _ hs)⟩
   exact oQ (hbo (hq2 q hq).1 (hq2 q hq).2) _
end
end Go.TY
end
noncomputable section
namespace Go.TY
open Go Go.DL Go.Proofs
def c46:aQ:=(.seq (.region [oo 1 (.box 5 (tm 0)),oo 2 (.mov (.const .nilfn))] []) (.seq (.region [oo 3 (.mkfn 76 [tm 1]),mv 2 3] []) .ret))
theorem l46:(Tryz.f46.body.bind (bk Tryz.prog 4 []))=some c46:=by kernel_rfl
def c30:aQ:=(.seq (.region [oo 1 (.box 9 (tm 0)),oo 2 (.mov (.const .nilfn))] []) (.seq (.region [oo 3 (.mkfn 50 [tm 1]),mv 2 3] []) .ret))
theorem l30:(Tryz.f30.body.bind (bk Tryz.prog 4 []))=some c30:=by kernel_rfl
def c27:aQ:=(.seq (.region [oo 1 (.box 9 (tm 0)),oo 2 (.mov (.const .nilfn))] []) (.seq (.region [oo 3 (.mkfn 45 [tm 1]),mv 2 3] []) .ret))
theorem l27:(Tryz.f27.body.bind (bk Tryz.prog 4 []))=some c27:=by kernel_rfl
end Go.TY
end
section
namespace Go.TY
open Go Go.DL Go.MM Go.Proofs
section
variable [Glb]
theorem CO (r:RP):DCalls Tryz.prog 46 [sR r] (.clos 76 [.cptr (sj r) 0]):=by
 rw [sD]
 refine qB (rs:=[.tmp 2]) mx Tryz.func46 l46 rfl rfl rfl (r:=[.clos 76 [.cptr (sj r) 0]]) (nlZ rfl) ?_
 repeat' ((conv=>whnf);first|exact trivial|refine nT_ ?_|refine aE1 ?_|refine aE0 ?_|refine aN1 ?_|refine aN0 ?_|refine aD1 ?_|refine aD0 ?_|refine nE_ (fun hq=>?_) (fun hq=>?_)|refine nN_ (fun hq=>?_) (fun hq=>?_)|refine nD_ (fun hq=>?_) (fun hq=>?_)|refine rb1 ?_|refine rb0 ?_|refine rbx ?_|refine rix ?_|(refine And.intro (by first|exact sQ r|fail) ?_)|refine aS ?_|fail)
theorem zX (r:RO):DCalls Tryz.prog 30 [se r] (.clos 50 [.cptr (sP r) 0]):=by
 rw [s7]
 refine qB (rs:=[.tmp 2]) mx Tryz.func30 l30 rfl rfl rfl (r:=[.clos 50 [.cptr (sP r) 0]]) (nlZ rfl) ?_
 repeat' ((conv=>whnf);first|exact trivial|refine nT_ ?_|refine aE1 ?_|refine aE0 ?_|refine aN1 ?_|refine aN0 ?_|refine aD1 ?_|refine aD0 ?_|refine nE_ (fun hq=>?_) (fun hq=>?_)|refine nN_ (fun hq=>?_) (fun hq=>?_)|refine nD_ (fun hq=>?_) (fun hq=>?_)|refine rb1 ?_|refine rb0 ?_|refine rbx ?_|refine rix ?_|(refine And.intro (by first|exact tz r|fail) ?_)|refine aS ?_|fail)
theorem CN (r:RO):DCalls Tryz.prog 27 [se r] (.clos 45 [.cptr (sP r) 0]):=by
 rw [s7]
 refine qB (rs:=[.tmp 2]) mx Tryz.func27 l27 rfl rfl rfl (r:=[.clos 45 [.cptr (sP r) 0]]) (nlZ rfl) ?_
 repeat' ((conv=>whnf);first|exact trivial|refine nT_ ?_|refine aE1 ?_|refine aE0 ?_|refine aN1 ?_|refine aN0 ?_|refine aD1 ?_|refine aD0 ?_|refine nE_ (fun hq=>?_) (fun hq=>?_)|refine nN_ (fun hq=>?_) (fun hq=>?_)|refine nD_ (fun hq=>?_) (fun hq=>?_)|refine rb1 ?_|refine rb0 ?_|refine rbx ?_|refine rix ?_|(refine And.intro (by first|exact tz r|fail) ?_)|refine aS ?_|fail)
def tY (o:RO):List RP:=if o.kind=1 then th o.pred else []
def s8 (r:RO):List RP:=(sn r).flatMap tY
def cnt (r:RO) (k:Nat):Nat:=(((sn r).take k).flatMap tY).length
end
section
theorem Bg {r:RO} {k:Nat} {o:RO} (h:(sn r)[k]? =some o):cnt r (k+1)=cnt r k+(tY o).length:=by
 obtain ⟨hl,rfl⟩:=gsZ h
 unfold cnt
 rw [List.take_succ_eq_append_getElem hl,List.flatMap_append,List.length_append]
 simp
theorem Cv (r:RO):cnt r (sn r).length=(s8 r).length:=by
 unfold cnt s8;rw [List.take_length]
theorem AY {r:RO} {k i:Nat} {o:RO} {t:RP} (h:(sn r)[k]? =some o) (ht:(tY o)[i]? =some t):(s8 r)[cnt r k+i]? =some t:=by
 obtain ⟨hl,rfl⟩:=gsZ h
 obtain ⟨hi,_⟩:=gsZ ht
 unfold s8 cnt
 have e:(sn r).flatMap tY=((sn r).take k).flatMap tY++(tY (sn r)[k]++((sn r).drop (k+1)).flatMap tY):=by
  conv=>lhs;rw [← List.take_append_drop k (sn r),List.flatMap_append,List.drop_eq_getElem_cons hl,List.flatMap_cons]
 rw [e,List.getElem?_append_right (by omega),Nat.add_sub_cancel_left,List.getElem?_append_left hi]
 exact ht
end
section
variable [Glb]
end
end Go.TY
end
section
namespace Go.TY
open Go Go.DL Go.MM Go.Proofs
attribute [local irreducible] aG gM WCM YC
section
variable [Glb]
end
section
theorem uZ {b:Nat→Option BX} {n:Nat} {v:BX} {o:List (Nat×BX)} (hb:b n=some v) (ho: ∀p∈o,p.1≠n):aH b ((n,v)::o)=aH b o:=by
 show upd (aH b o) n (some v)=aH b o
 exact qj ((eV ho).trans hb)
theorem gh2 {sl sl1 sl2:Nat→V} {gh gh1 gh2:Nat→Nat→V} {a b:Nat} (h1: ∀i,gh1 (a+1+i)=c7 sl gh i) (h2: ∀i,gh2 (b+1+i)=c7 sl1 gh1 i) (i:Nat):c7 sl2 gh2 (b+a+4+i)=c7 sl gh i:=by
 rw [show b+a+4+i=(b+1+((a+1+i)+1))+1 by omega]
 exact (h2 _).trans (h1 i)
end
section
variable [Glb]
theorem zG {N:Nat} {st:St} {g:Operand} {y:O} {p:Nat} {asg body:Code} (hg:al g=some y) (r:RO) (hv:ev st.sl y= .t (.clos 45 [.cptr (sP r) 0])) (off:Nat) (F:Nat→Prop) (hi:Nat) (hio:hi≤off) (hB:(sn r).length<2^59) (hBp: ∀o∈sn r,(th o.pred).length<2^59) (hfl: ∀n,F n→st.bx n=none) (hfo: ∀n,off≤n→st.bx n=none) (hcn:CxN st.cx)
  {outs:Nat→List (Nat×BX)} {stop:Code→(aa→World→Prop)→List (Nat×BX)→Prop} {Q:av→St→Prop} (h0: ∀q∈outs 0,st.bx q.1=some q.2)
  (hG: ∀(l D:Nat) (fn:FuncId) (tmps:Array Value),tmps.size=N→dF Tryz.prog l (rcE fn tmps p asg body D) st.cx st F hi ((s8 r).map sR) outs stop)
  (hend:Q .normal {st with bx:=aH st.bx (outs (s8 r).length)})
  (hstop: ∀c cx' o',stop c cx' o'→(c= .ret∧Q .ret {st with bx:=aH st.bx o',cx:=cx' })∨ ∃id,c= .exit id∧Q (.exit id) {st with bx:=aH st.bx o',cx:=cx' }):
  aG Tryz.prog N (.rangeFunc g #[p] asg body) st Q:=by
 refine aG.clean (fun _=>?_)
 refine aG.range (N:=N) hg (gf:=45) (caps:=[.t (.cptr (sP r) 0)]) (by rw [hv];rfl) Tryz.func45 Fv rfl rfl (nlZ rfl) off hcn (fun l D fn tmps hN=>?_)
 have G:=hG l D fn tmps hN
 rw [k45]
 have hf2:st.bx (2+off)=none:=hfo _ (by omega)
 have hnm: ∀{k:Nat} {q:Nat},hi≤q→ ∀p∈outs k,p.1≠q:=fun h p hp e=>by have:=(G.nm _ p hp).1;omega
 have hnms: ∀{c cx o} {q:Nat},stop c cx o→hi≤q→ ∀p∈o,p.1≠q:=fun hs h p hp e=>by have:=(G.nms _ _ _ hs p hp).1;omega
 refine aG.seq (D5 (pL (rv (v:=.func (.yield l) #[] #[]) rfl hf2 (qK ?_))))
 refine aG.seq (Ea (pL (rU (cs:=sP r) rfl (tz r) (ry (ts:=[se r]) (by rw [s7];rfl) (zX r) (qK ?_)))))
 let b1:Nat→Option BX:=upd st.bx (2+off) (some (.v [lJ l]))
 have hb1o: ∀{q:Nat},q≠2+off→b1 q=st.bx q:=fun h=>ae _ _ _ _ h
 let yb:Nat×BX:=(2+off,.v [lJ l])
 let rc:=rcE fn tmps p asg body D
 let outs1:Nat→List (Nat×BX):=fun k=>yb::outs (cnt r k)
 let stop1:Code→(aa→World→Prop)→List (Nat×BX)→Prop:=fun c cx' o'=>c= .ret∧ ∃c0 cx0 o0,stop c0 cx0 o0∧cx'=dj l (rc (some c0)) cx0 0∧o'=yb::o0
 have safeY: ∀q:Nat→Prop,bm q yb.2:=fun q c hc=>by
  rw [List.mem_singleton.1 hc];exact .raw _
 have nmY: ∀{k:Nat}, ∀p∈outs k,p.1≠2+off:=hnm (by omega)
 have nmsY: ∀{c cx o},stop c cx o→ ∀p∈o,p.1≠2+off:=fun hs=>hnms hs (by omega)
 have nFY: ¬F (2+off):=fun h=>by have:=G.fh _ h;omega
 let F1:Nat→Prop:=fun n=>F n∨(off+3≤n∧n<off+30)
 have sub1: ∀{hi' lo':Nat} {c:aa→World→Prop} {f:Nat→Nat} {stp:Code→(aa→World→Prop)→List (Nat×BX)→Prop},off+30≤hi'→off+3≤lo'→CxD c→(∀ c cx o',stp c cx o'→CxD cx∧ ∃c0 cx0 o0,stop c0 cx0 o0∧o'=yb::o0)→oW (fun n=>F n∨(lo'≤n∧n<off+30)) hi' c (fun k=>yb::outs (f k)) stp:=fun {hi' lo' c f stp} hh hl hc hst=>
  {fh:=fun n h=>by
    rcases h with h|h
    ·have:=G.fh _ h;omega
    ·omega
   nm:=fun k p hp=>by
    rcases List.mem_cons.1 hp with rfl|hp
    ·exact ⟨by show 2+off<_;omega,fun h=>by
      rcases h with h|h
      ·exact nFY h
      ·have:2+off≥_:=h.1;omega⟩
    ·have h1:=G.nm _ p hp
     exact ⟨by omega,fun h=>by
      rcases h with h|h
      ·exact h1.2 h
      ·omega⟩
   nms:=fun c cx o ho p hp=>by
    obtain ⟨_,c0,cx0,o0,hs0,rfl⟩:=hst _ _ _ ho
    rcases List.mem_cons.1 hp with rfl|hp
    ·exact ⟨by show 2+off<_;omega,fun h=>by
      rcases h with h|h
      ·exact nFY h
      ·have:2+off≥_:=h.1;omega⟩
    ·have h1:=G.nms _ _ _ hs0 p hp
     exact ⟨by omega,fun h=>by
      rcases h with h|h
      ·exact h1.2 h
      ·omega⟩
   cov:=fun k k' p hp=>by
    rcases List.mem_cons.1 hp with rfl|hp
    ·exact ⟨yb,by simp,rfl⟩
    ·obtain ⟨q,hq,e⟩:=G.cov (f k) (f k') p hp
     exact ⟨q,by simp [hq],e⟩
   covs:=fun c cx o ho k p hp=>by
    obtain ⟨_,c0,cx0,o0,hs0,rfl⟩:=hst _ _ _ ho
    rcases List.mem_cons.1 hp with rfl|hp
    ·exact ⟨yb,by simp,rfl⟩
    ·obtain ⟨q,hq,e⟩:=G.covs _ _ _ hs0 (f k) p hp
     exact ⟨q,by simp [hq],e⟩
   safe:=fun k p hp=>by
    rcases List.mem_cons.1 hp with rfl|hp
    ·exact safeY _
    ·exact (G.safe _ p hp).imp fun n ⟨q,hq,e⟩=>by
      obtain ⟨q',hq',e'⟩:=G.cov 0 (f 0) q hq
      exact ⟨q',List.mem_cons_of_mem _ hq',e'.trans e⟩
   safes:=fun c cx o ho p hp=>by
    obtain ⟨_,c0,cx0,o0,hs0,rfl⟩:=hst _ _ _ ho
    rcases List.mem_cons.1 hp with rfl|hp
    ·exact safeY _
    ·exact (G.safes _ _ _ hs0 p hp).imp fun n ⟨q,hq,e⟩=>by
      obtain ⟨q',hq',e'⟩:=G.cov 0 (f 0) q hq
      exact ⟨q',List.mem_cons_of_mem _ hq',e'.trans e⟩
   cxd:=fun c cx o ho=>(hst _ _ _ ho).1
   cxo_:=hc
   nd:=fun k=>List.nodup_cons.2 ⟨fun h=>by
    obtain ⟨p,hp,e⟩:=List.mem_map.1 h
    exact nmY p hp e,G.nd _⟩}
 have cl: ∀{s2:St} {o:List (Nat×BX)} {cx:aa→World→Prop},s2.gh=c7 st.sl st.gh→(∀ q,q≠2+off→s2.bx q=aH st.bx o q)→(∀ p∈o,p.1≠2+off)→(∀ p∈o,bm (fun n=>(st.bx n).isSome=true) p.2)→
   DL.Clean st [2+off] (s2.bp st.off cx) {st with bx:=aH st.bx o,cx:=cx }:=fun h1 h2 h3 h4=>
  mu (d:=none) (v:=.nil) (by rw [h1];rfl) (fun j=>by rw [h1];rfl) (fun q hq=>h2 q (fun e=>hq (by rw [e];simp))) (fun q hq=>by rw [List.mem_singleton.1 hq];exact ⟨hf2,h3⟩) h4
 refine aG.block (xM (N:=19) rfl r rfl (off+30) F1 (off+30) (Nat.le_refl _) hB (fun n h=>?_) (fun n h=>(hb1o (by omega)).trans (hfo n (by omega))) (rm hcn) (outs:=outs1) (stop:=stop1) (fun q hq=>?_) (fun l1 D1 fn1 tmps1 hN1=>?_) ?_ (fun c cx' o' h=>?_))
 ·rcases h with h|h
  ·exact (hb1o (fun e=>nFY (by rw [← e];exact h))).trans (hfl n h)
  ·exact (hb1o (by omega)).trans (hfo n (by omega))
 ·rcases List.mem_cons.1 hq with rfl|hq
  ·exact af _ _ _
  ·exact (hb1o (nmY q hq)).trans (h0 q hq)
 rotate_left
 ·refine ⟨none,st.cx,rfl,G.cxo_,[2+off],_,hend,cl rfl (fun q hq=>?_) nmY (G.sf (G.lvA h0) _)⟩
  show aH b1 (yb::outs (cnt r (sn r).length)) q=_
  rw [uZ (b:=b1) (af _ _ _) nmY,Cv]
  exact oQ (hb1o hq) _
 ·obtain ⟨rfl,c0,cx0,o0,hs0,rfl,rfl⟩:=h
  refine Or.inl ⟨rfl,?_⟩
  have hbx: ∀q,q≠2+off→aH b1 (yb::o0) q=aH st.bx o0 q:=fun q hq=>by
   rw [uZ (b:=b1) (af _ _ _) (nmsY hs0)]
   exact oQ (hb1o hq) _
  rcases hstop _ _ _ hs0 with ⟨rfl,hq⟩|⟨id,rfl,hq⟩
  ·exact ⟨some _,cx0,rfl,G.cxd _ _ _ hs0,[2+off],_,hq,cl rfl hbx (nmsY hs0) (G.sfs (G.lvA h0) _ _ _ hs0)⟩
  ·exact ⟨some _,cx0,rfl,G.cxd _ _ _ hs0,[2+off],_,hq,cl rfl hbx (nmsY hs0) (G.sfs (G.lvA h0) _ _ _ hs0)⟩
 refine dF.of (lo:=off+3) (hi:=off+30) (sub1 (Nat.le_refl _) (Nat.le_refl _) (pX G.cxo_) ?_) (fun n h1 h2=>Or.inr ⟨h1,h2⟩) hN1 (by decide) (fun {W1} R1 k x m1 st' hx hA1=>?_)
 ·rintro c cx o' ⟨rfl,c0,cx0,o0,hs0,rfl,rfl⟩
  exact ⟨pX (G.cxd _ _ _ hs0),c0,cx0,o0,hs0,rfl⟩
 obtain ⟨pk,hk,rfl⟩: ∃pk,(sn r)[k]? =some pk∧se pk=x:=by
  rw [List.getElem?_map,Option.map_eq_some_iff] at hx;exact hx
 have hcs:=Bg hk
 have hget:=fun i t=>AY (r:=r) (k:=k) (i:=i) (o:=pk) (t:=t) hk
 have hBk:=hBp pk (List.mem_of_getElem? hk)
 have hpd:tY pk=if pk.kind=1 then th pk.pred else []:=rfl
 generalize tY pk=pd at hcs hget hpd
 have hfr1: ∀n,off+3≤n→n<off+30→st'.bx n=none:=fun n h1 h2=>hA1.fr n (Or.inr ⟨h1,h2⟩)
 have hfr1F: ∀n,F n→st'.bx n=none:=fun n h=>hA1.fr n (Or.inl h)
 obtain ⟨B,htop1⟩:=hA1.top
 have hat1:=hA1.at_
 have hsl2:st'.gh (m1+R1.j) 2= .ptr (2+off) 0:=congrFun hA1.g0 2
 have hgs1:=hA1.gs
 have hcx1:=hA1.cx
 clear hA1
 rw [s7]
 obtain ⟨kd,pr,f,n,args⟩:=pk
 refine Ed (pL (pK (hfr1 (3+(off+3)) (by omega) (by omega)) (qW (b:=3+(off+3)) (off:=0) rfl (af _ _ _) rfl ⟨rfl,Nat.le_refl _⟩ (qK ⟨rfl,_,rfl,?_⟩))))
 have hb0: ∀{u v:Option BX} {q:Nat},q≠3+(off+3)→upd (upd st'.bx (3+(off+3)) u) (3+(off+3)) v q=st'.bx q:=fun h=>(ae _ _ _ _ h).trans (ae _ _ _ _ h)
 refine aG.block (aG.seq (Eg (qY (rB (b:=3+(off+3)) (off:=0) rfl (rV (b:=3+(off+3)) (off:=0+0) (t:=I kd) rfl (af _ _ _) (by decide) rfl (r5 (a:=kd) (b:=1) rfl rfl (qK ?_)))))))
 by_cases hkd:kd=1
 case neg=>
  refine rD (by show V.t (.bool (kd !=1))=_;rw [bne_iff_ne.2 hkd]) (rE ⟨rfl,_,yb::outs (cnt r (k+1)),rfl,fun q hq=>?_,rfl,rfl⟩)
  have e:cnt r (k+1)=cnt r k:=by rw [hcs,hpd,if_neg (show ¬(RO.mk kd pr f n args).kind=1 from hkd)];rfl
  exact (hb0 (show q≠3+(off+3) from fun h=>hq (by omega))).trans (congrFun ((ki hat1).symm.trans (congrArg (fun j=>aH st'.bx (yb::outs j)) e.symm)) q)
 have hpd:pd=th pr:=hpd.trans (if_pos hkd)
 subst hpd
 refine rC (by show V.t (.bool (kd !=1))=_;rw [hkd];rfl) (rH ?_)
 have hprc:T.agg (sj pr)=sR pr:=(sD pr).symm
 refine aG.seq (Ej (pL (rB (b:=3+(off+3)) (off:=0) rfl (rW (b:=3+(off+3)) (off:=0) (m:=9) (t:=sR pr) rfl (af _ _ _) (by decide) (by rw [← hprc];cases pr;rfl) (ry (ts:=[sR pr]) rfl (CO pr) (qK ?_))))))
 let off2:=max B (off+30)
 have ho2:B≤off2∧off+30≤off2:=⟨Nat.le_max_left _ _,Nat.le_max_right _ _⟩
 refine aG.block (zH (N:=19) rfl pr rfl off2 (fun n=>F n∨(off+8≤n∧n<off+30)) off2 (Nat.le_refl _) hBk (fun n h=>?_) (fun n h=>(hb0 (by omega)).trans (htop1 n (by omega))) ?_ (outs:=fun i=>yb::outs (cnt r k+i)) (stop:=fun c cx' o'=>c= .ret∧ ∃c0 cx0 o0,stop c0 cx0 o0∧cx'=b5 (W1 (cW l1 (bsy fn1 tmps1 7 yn (.block 1 (.seq yo (.seq yp (.block 2 (.rangeFunc (.tmp 13) #[14] xy (.block 3 (.seq wS xz))))))) D1) (dj l (rc (some c0)) cx0 0) m1))∧o'=yb::o0) (fun q hq=>?_) (fun l2 D2 fn2 tmps2 hN2=>?_) ?_ (fun c cx' o' h=>?_))
 ·rcases h with h|h
  ·exact (hb0 (by have:=G.fh _ h;omega)).trans (hfr1F n h)
  ·exact (hb0 (by omega)).trans (hfr1 n (by omega) (by omega))
 ·exact Wr.cxN (Wr.pop (R1.comp (Wr.r0 l1 _ m1))) (rm hcn)
 ·refine (hb0 ?_).trans (hat1 q hq)
  rcases List.mem_cons.1 hq with rfl|hq
  ·show 2+off≠_;omega
  ·exact hnm (by omega) q hq
 rotate_left
 ·refine ⟨rfl,_,yb::outs (cnt r (k+1)),rfl,fun q hq=>?_,rfl,rfl⟩
  exact (oQ (hb0 (show q≠3+(off+3) from fun h=>hq (by omega))) (yb::outs (cnt r k+(th pr).length))).trans (congrArg (fun j=>aH st'.bx (yb::outs j) q) hcs.symm)
 ·obtain ⟨rfl,c0,cx0,o0,hs0,rfl,rfl⟩:=h
  exact Or.inl ⟨rfl,rfl,_,yb::o0,rfl,fun q hq=>oQ (hb0 (show q≠3+(off+3) from fun h=>hq (by omega))) (yb::o0),rfl,c0,cx0,o0,hs0,rfl,rfl⟩
 refine dF.of (lo:=off+8) (hi:=off+30) (sub1 (lo':=off+8) (f:=fun i=>cnt r k+i) (by omega) (by omega) (Wr.cxD (Wr.pop (R1.comp (Wr.r0 l1 _ m1))) (pX G.cxo_)) ?_) (fun n h1 h2=>Or.inr ⟨h1,h2⟩) hN2 (by decide) (fun {W2} R2 i x m2 st'' hx2 hA2=>?_)
 ·rintro c cx o' ⟨rfl,c0,cx0,o0,hs0,rfl,rfl⟩
  exact ⟨Wr.cxD (Wr.pop (R1.comp (Wr.r0 l1 _ m1))) (pX (G.cxd _ _ _ hs0)),c0,cx0,o0,hs0,rfl⟩
 have hex: ∃t,(th pr)[i]? =some t∧T.agg (sj t)=x:=by
  rw [List.getElem?_map,Option.map_eq_some_iff] at hx2
  obtain ⟨t,h1,h2⟩:=hx2
  exact ⟨t,h1,(sD t).symm.trans h2⟩
 obtain ⟨t,ht,hxe⟩:=hex
 subst hxe
 have hxt:((s8 r).map sR)[cnt r k+i]? =some (sR t):=by rw [List.getElem?_map,hget i t ht];rfl
 have hfr2: ∀n,off+8≤n→n<off+30→st''.bx n=none:=fun n h1 h2=>hA2.fr n (Or.inr ⟨h1,h2⟩)
 have hfr2F: ∀n,F n→st''.bx n=none:=fun n h=>hA2.fr n (Or.inl h)
 have htop2':=hA2.top
 obtain ⟨B2,htop2⟩:=htop2'
 have hat2:=hA2.at_
 have hsl22:st''.gh (m2+R2.j) 2= .ptr (2+off) 0:=(congrFun hA2.g0 2).trans hsl2
 have hgs2:=hA2.gs
 have hcx2:=hA2.cx
 clear hA2
 have hb2: ∀{u v:Option BX} {q:Nat},q≠4+(off+8)→upd (upd st''.bx (4+(off+8)) u) (4+(off+8)) v q=st''.bx q:=fun h=>(ae _ _ _ _ h).trans (ae _ _ _ _ h)
 have hY2:st''.bx (2+off)=some (.v [lJ l]):=hat2 yb (by simp)
 refine Em (pL (pK (hfr2 (4+(off+8)) (by omega) (by omega)) (qW (b:=4+(off+8)) (off:=0) rfl (af _ _ _) rfl ⟨sQ t,Nat.le_refl _⟩ (qK ⟨rfl,_,rfl,?_⟩))))
 refine aG.block (aG.seq (E8 (rS (b:=2+off) hsl22 ((hb2 (by omega)).trans hY2) rfl (rT (b:=4+(off+8)) rfl (af _ _ _) (qK (rJ (us':=[.t (sR t)]) rfl (by
   show [V.t (.agg (aJ [.int .i64 0,.str ⟨#[]⟩,.int .i64 0,.int .i64 0,.nil] 0 5 (sj t)))]=_
   rw [mG (n:=5) rfl,sD]) ?_))))))
 let R:=Wr.pop (R2.comp ((Wr.r0 l2 (bsy fn2 tmps2 14 xy (.block 3 (.seq wS xz)) D2) m2).comp (Wr.pop (R1.comp (Wr.r0 l1 (bsy fn1 tmps1 7 yn (.block 1 (.seq yo (.seq yp (.block 2 (.rangeFunc (.tmp 13) #[14] xy (.block 3 (.seq wS xz))))))) D1) m1)))))
 have hRj:R.j=(m2+R2.j)+(m1+R1.j)+4:=by
  show ((((m1+1)+R1.j)+1+(m2+1))+R2.j)+1=_
  omega
 refine G.yld R (cnt r k+i) (sR t) 0 _ _ _ hxt ⟨rfl,?_,fun j=>?_,fun q hq=>?_,fun q hq=>?_,?_⟩ ?t (fun c cx' o' hs=> ?f)
 ·exact (congrArg (fun k=>c7 st''.sl st''.gh k) (show 0+R.j=(m2+R2.j)+(m1+R1.j)+4+0 by omega)).trans (gh2 hgs1 hgs2 0)
 ·exact (congrArg (fun k=>c7 st''.sl st''.gh k) (show 0+R.j+1+j=(m2+R2.j)+(m1+R1.j)+4+(j+1) by omega)).trans (gh2 hgs1 hgs2 (j+1))
 ·exact (hb2 (hnm (by omega) q hq)).trans (hat2 q (List.mem_cons_of_mem _ hq))
 ·exact (hb2 (by have:=G.fh _ hq;omega)).trans (hfr2F q hq)
 ·exact ⟨max B2 (off+30),fun q hq=>(hb2 (by omega)).trans (htop2 q (by omega))⟩
 case t=>
  refine r6 rfl (qK ?_)
  refine BS (rC rfl (rH ?_))
  refine ⟨rfl,_,yb::outs (cnt r k+(i+1)),rfl,fun q hq=>?_,rfl,rfl⟩
  exact (oQ (hb2 (show q≠4+(off+8) from fun h=>hq (by omega))) (outs (cnt r k+i+1))).trans (congrFun (uZ hY2 nmY).symm q)
 case f=>
  refine r6 rfl (qK ?_)
  refine BS (rD rfl (rG ?_))
  refine ⟨rfl,_,yb::o',rfl,fun q hq=>?_,rfl,c,cx',o',hs,rfl,rfl⟩
  exact (oQ (hb2 (show q≠4+(off+8) from fun h=>hq (by omega))) o').trans (congrFun (uZ hY2 (nmsY hs)).symm q)
end
end Go.TY
end
section
namespace Go.TY
instance memBA (a : ByteArray) (l : List ByteArray) : Decidable (a ∈ l) := @List.instDecidableMemOfLawfulBEq ByteArray instBEqOfDecidableEq inferInstance a l
structure Lin {α:Type} (lt:α→α→Bool):Prop where
 irr: ∀a,lt a a=false
 tr: ∀a b c,lt a b=true→lt b c=true→lt a c=true
 tot: ∀a b,lt a b=false→lt b a=false→a=b
section
variable {α:Type} {lt:α→α→Bool}
theorem Lin.ne (h:Lin lt) {a b:α} (hl:lt a b=true):a≠b:=fun e=>by
 subst e;rw [h.irr] at hl;cases hl
theorem Lin.asym (h:Lin lt) {a b:α} (hl:lt a b=true):lt b a=false:=by
 cases e:lt b a with
 |false=>rfl
 |true=>have:=h.tr _ _ _ hl e;rw [h.irr] at this;cases this
variable [DecidableEq α]
def put (lt:α→α→Bool):List α→α→List α
 |[],s=>[s]
 |x::xs,s=>if lt x s=true then x::put lt xs s else s::(x::xs).filter fun y=> !decide (y=s)
def Inc (lt:α→α→Bool) (l:List α):Prop:=l.Pairwise fun a b=>lt a b=true
theorem zQ {l:List α} {s x:α}:x∈put lt l s↔x=s∨x∈l:=by
 induction l with
 |nil=>simp [put]
 |cons y ys ih=>
  unfold put
  by_cases hl:lt y s=true
  ·rw [if_pos hl,List.mem_cons,ih,List.mem_cons]
   exact ⟨fun h=>by rcases h with h|h|h <;> simp [h],fun h=>by rcases h with h|h|h <;> simp [h]⟩
  ·rw [if_neg hl,List.mem_cons,List.mem_filter]
   by_cases hx:x=s
   ·simp [hx]
   ·simp [hx]
theorem Inc.put (h:Lin lt) {l:List α} (hl:Inc lt l) (s:α):Inc lt (put lt l s):=by
 induction l with
 |nil=>simp [TY.put,Inc]
 |cons y ys ih=>
  have h2:=List.pairwise_cons.1 hl
  unfold TY.put
  by_cases hys:lt y s=true
  ·rw [if_pos hys]
   refine List.pairwise_cons.2 ⟨fun z hz=>?_,ih h2.2⟩
   rcases zQ.1 hz with rfl|hz
   ·exact hys
   ·exact h2.1 z hz
  ·rw [if_neg hys]
   have hys':lt y s=false:=by simpa using hys
   refine List.pairwise_cons.2 ⟨fun z hz=>?_,hl.filter _⟩
   obtain ⟨h3,h4⟩:=List.mem_filter.1 hz
   have hzs:z≠s:=by simpa using h4
   cases e:lt s z with
   |true=>rfl
   |false=>
    exfalso
    cases e2:lt z s with
    |false=>exact hzs (h.tot _ _ e2 e)
    |true=>
     rcases List.mem_cons.1 h3 with rfl|h3
     ·rw [hys'] at e2;cases e2
     ·have:=h.tr _ _ _ (h2.1 z h3) e2
      rw [hys'] at this;cases this
theorem Inc.ext (h:Lin lt): ∀{a b:List α},Inc lt a→Inc lt b→(∀ x,x∈a↔x∈b)→a=b
 |[],[],_,_,_=>rfl
 |[],y::ys,_,_,hm=>by have:=(hm y).2 (by simp);simp at this
 |x::xs,[],_,_,hm=>by have:=(hm x).1 (by simp);simp at this
 |x::xs,y::ys,ha,hb,hm=>by
  have h1:=List.pairwise_cons.1 ha
  have h2:=List.pairwise_cons.1 hb
  have e:x=y:=by
   by_cases e:x=y
   ·exact e
   ·exfalso
    have hx:x∈ys:=by have:=(hm x).1 (by simp);simpa [e] using this
    have hy:y∈xs:=by have:=(hm y).2 (by simp);simpa [show ¬y=x from fun h=>e h.symm] using this
    have l1:=h1.1 y hy
    have l2:=h2.1 x hx
    rw [h.asym l1] at l2;cases l2
  subst e
  rw [Inc.ext h h1.2 h2.2 fun z=>?_]
  have:=hm z
  simp only [List.mem_cons] at this
  by_cases e:z=x
  ·subst e
   exact ⟨fun hz=>absurd rfl (h.ne (h1.1 z hz)),fun hz=>absurd rfl (h.ne (h2.1 z hz))⟩
  ·simpa [e] using this
def uC (lt:α→α→Bool) (l:List α):List α:=l.foldl (put lt) []
theorem zF {l:List α}: ∀{acc:List α} {x:α},x∈l.foldl (put lt) acc↔x∈acc∨x∈l:=by
 induction l with
 |nil=>simp
 |cons y ys ih=>
  intro acc x
  rw [List.foldl_cons,ih,zQ,List.mem_cons]
  exact ⟨fun h=>by rcases h with (h|h)|h <;> simp [h],fun h=>by rcases h with h|h|h <;> simp [h]⟩
theorem uv {l:List α} {x:α}:x∈uC lt l↔x∈l:=by simp [uC,zF]
theorem zB (h:Lin lt) {l:List α}: ∀{acc:List α},Inc lt acc→Inc lt (l.foldl (put lt) acc):=by
 induction l with
 |nil=>exact fun h=>h
 |cons y ys ih=>intro acc ha;exact ih (ha.put h y)
theorem wJ (h:Lin lt) (l:List α):Inc lt (uC lt l):=zB h List.Pairwise.nil
theorem yL (h:Lin lt) {a b:List α} (hm: ∀x,x∈a↔x∈b):uC lt a=uC lt b:=
 Inc.ext h (wJ h a) (wJ h b) fun x=>by rw [uv,uv,hm]
def once:List α→List α→List α
 |acc,[]=>acc
 |acc,x::xs=>once (if x∈acc then acc else acc++[x]) xs
theorem xW: ∀{l acc:List α} {x:α},x∈once acc l↔x∈acc∨x∈l
 |[],acc,x=>by simp [once]
 |y::ys,acc,x=>by
  unfold once
  rw [xW,List.mem_cons]
  by_cases h:y∈acc
  ·rw [if_pos h]
   exact ⟨fun h=>by rcases h with h|h <;> simp [h],fun k=>by rcases k with k|rfl|k <;> simp [*]⟩
  ·rw [if_neg h]
   simp [or_assoc]
theorem wM: ∀{l acc:List α},acc.Nodup→(once acc l).Nodup
 |[],_,h=>h
 |y::ys,acc,h=>by
  unfold once
  refine wM ?_
  by_cases hc:y∈acc
  ·rw [if_pos hc];exact h
  ·rw [if_neg hc]
   refine List.nodup_append.2 ⟨h,by simp,fun a ha b hb e=>hc ?_⟩
   rw [List.mem_singleton.1 hb] at e
   subst e
   exact ha
theorem zJ (h:Lin lt) {a zs:List α} (hn:zs.Nodup) (hs:zs.Pairwise fun x y=>lt y x=false) (hm: ∀x,x∈zs↔x∈a):zs=uC lt a:=by
 refine Inc.ext h ?_ (wJ h a) fun x=>by rw [hm,uv]
 refine (hs.and (List.nodup_iff_pairwise_ne.1 hn)).imp fun {x y} hxy=>?_
 cases e:lt x y with
 |true=>rfl
 |false=>exact absurd (h.tot _ _ e hxy.1) hxy.2
end
def ltS (a b:ByteArray):Bool:=Op.bytesLess a.toList b.toList
theorem AN {a b:ByteArray} (h:a.toList=b.toList):a=b:=by
 rw [ByteArray.toList_eq,ByteArray.toList_eq] at h
 exact ByteArray.ext (Array.ext' h)
theorem Bo:Lin ltS where
 irr:=fun a=>by simp [ltS,Go.Proofs.bytesLess_eq]
 tr:=fun a b c h k=>by
  simp only [ltS,Go.Proofs.bytesLess_eq,decide_eq_true_eq] at *
  exact List.lt_trans h k
 tot:=fun a b h k=>by
  simp only [ltS,Go.Proofs.bytesLess_eq,decide_eq_false_iff_not,List.not_lt] at *
  exact AN (List.le_antisymm k h)
end Go.TY
end
section
namespace Go.TY
open Go Go.DL Go.MM
theorem wZ {α:Type} [DecidableEq α]: ∀{xs acc:List α} {y:α},once acc (xs++[y])=(if y∈once acc xs then once acc xs else once acc xs++[y])
 |[],acc,y=>rfl
 |x::xs,acc,y=>by
  rw [List.cons_append]
  unfold once
  exact wZ
end Go.TY
end
section
namespace Go.TY
open Go Go.DL Go.MM
def zk (o:RO):List RP:=if o.kind=1 then sJ o.pred else []
def uJ (r:RO):List RP:=(sE r).flatMap zk
def yk (r:RO):List ByteArray:=(uJ r).flatMap fun x=>if sk x.field e0 then [] else [x.field]
def reads (r:RO):List ByteArray:=uC ltS (yk r)
def tx (r:RO):List ByteArray:=(sE r).flatMap fun o=>if o.kind=2 then [o.field] else []
def writes (r:RO):List ByteArray:=uC ltS (tx r)
end Go.TY
end
section
namespace Go.TY
open Go Go.DL Go.MM Go.Proofs
mutual
theorem vB: ∀r:RP,th r=sJ r
 |.mk k f n m a=>by rw [th,sJ,xJ a]
theorem xJ: ∀l:List RP,sK l=sV l
 |[]=>rfl
 |r::rs=>by rw [sK,sV,vB r,xJ rs]
end
mutual
theorem tZ: ∀r:RO,sn r=sE r
 |.mk k p f n a=>by rw [sn,sE,xI a]
theorem xI: ∀l:List RO,sI l=sH l
 |[]=>rfl
 |r::rs=>by rw [sI,sH,tZ r,xI rs]
end
attribute [local irreducible] aG gM WCM YC
end Go.TY
end
section
namespace Go.TY
open Go Go.DL Go.Proofs
section
variable {α:Type} {enc:α→T} {d:α}
def w9 (enc:α→T) (d:α) (ks:List α) (xs:List T):Prop:= ∃js:List Nat,js.Perm (List.range ks.length)∧xs=js.map fun j=>enc (ks.getD j d)
abbrev C8 (enc:α→T) (d:α) (ks:List α) (ix:List Nat):List T:=ix.map fun j=>enc (ks.getD j d)
abbrev esK (enc:α→T) (ks:List α) (vs:List T):List (T×T):=(ks.map enc).zip vs
theorem Cx {ks:List α} {vs:List T} {j:Nat} {e:T×T} (h:(esK enc ks vs)[j]? =some e):e.1=enc (ks.getD j d)∧j<ks.length:=by
 rw [List.getElem?_zip_eq_some] at h
 obtain ⟨h1,_⟩:=h
 rw [List.getElem?_map,Option.map_eq_some_iff] at h1
 obtain ⟨k,hk,hk2⟩:=h1
 refine ⟨?_,(gsZ hk).1⟩
 rw [List.getD_eq_getElem?_getD,hk, ←hk2];rfl
theorem Af {ix:List Nat} {n:Nat} (hn:ix.Nodup) (hl: ∀j∈ix,j<n) (ha: ∀j,j<n→j∈ix):ix.Perm (List.range n):=
 (List.perm_ext_iff_of_nodup hn List.nodup_range).2 fun j=>⟨fun h=>List.mem_range.2 (hl j h),fun h=>ha j (List.mem_range.1 h)⟩
theorem Bh (es:List (T×T)) (ix:List Nat) (j:Nat) (e:T×T) (h:es[j]? =some e):jR es (ix++[j])= .tup [e.1,e.2]:=by
 unfold jR
 rw [List.getLast?_concat]
 simp [h]
theorem xP {β:Type} {f:Nat→β} {n:Nat} {v:β} (h:f n=v):upd f n v=f:=by
 funext m
 by_cases e:m=n
 ·rw [e,af,h]
 ·rw [ae _ _ _ _ e]
theorem yJ {ks:List α} {xs:List T} (h:w9 enc d ks xs): ∃zs:List α,zs.Perm ks∧xs=zs.map enc:=by
 obtain ⟨js,hp,rfl⟩:=h
 refine ⟨js.map fun j=>ks.getD j d,?_,by simp⟩
 have h1:((List.range ks.length).map fun j=>ks.getD j d)=ks:=by
  apply List.ext_getElem?
  intro i
  rw [List.getElem?_map]
  by_cases h:i<ks.length
  ·simp [h]
  ·simp [h]
 have:=hp.map (fun j=>ks.getD j d)
 rwa [h1] at this
theorem BN (hc: ∀a,(enc a).cells=[enc a]): ∀zs:List α,(zs.map enc).flatMap T.cells=zs.map enc
 |[]=>rfl
 |z::zs=>by rw [List.map_cons,List.flatMap_cons,hc,BN hc zs];rfl
theorem yI (hc: ∀a,(enc a).cells=[enc a]) (hf: ∀a,(enc a).flat=true) (js:List Nat) (ks:List α): ∀t∈(js.map fun j=>enc (ks.getD j d)).flatMap T.cells,t.flat=true:=fun t ht=>by
 simp only [List.mem_flatMap,List.mem_map] at ht
 obtain ⟨x,⟨j,_,rfl⟩,hx⟩:=ht
 rw [hc,List.mem_singleton] at hx
 rw [hx];exact hf _
end
theorem zO: ∀(l:List T) (n:Nat),l.length=n→chunk 1 n l=l
 |[],0,_=>rfl
 |x::l,n+1,h=>by
  show x::chunk 1 n l=x::l
  rw [zO l n (by simpa using h)]
 |x::l,0,h=>by simp at h
 |[],n+1,h=>by simp at h
theorem yM {cs vs:List T} {n:Nat} (h:cs.length=n):aJ cs 0 n vs=vs:=by simp [aJ, ←h]
abbrev xU (x:List UInt8):T:=.str ⟨x.toArray⟩
theorem Cw (s:ByteArray):xU s.toList= .str s:=by
 unfold xU
 congr 1
 rw [ByteArray.toList_eq]
def x4 (ks:List ByteArray):List ByteArray:=uC ltS ks
theorem zU {ks zs:List ByteArray} (hn:ks.Nodup) (hp:zs.Perm ks):((zs.map ByteArray.toList).mergeSort (fun x y=>decide (x≤y))).map xU=(x4 ks).map T.str:=by
 have hpm:=List.mergeSort_perm (zs.map ByteArray.toList) (fun x y=>decide (x≤y))
 have hs:=List.pairwise_mergeSort (le:=fun x y:List UInt8=>decide (x≤y)) (fun a b c h1 h2=>by simp only [decide_eq_true_eq] at *;exact List.le_trans h1 h2) (fun a b=>by simp only [Bool.or_eq_true,decide_eq_true_eq];exact List.le_total a b) (zs.map ByteArray.toList)
 generalize (zs.map ByteArray.toList).mergeSort (fun x y=>decide (x≤y))=ys at *
 have e1: ∀y:List UInt8,(⟨y.toArray⟩:ByteArray).toList=y:=fun y=>by rw [ByteArray.toList_eq]
 have e2:ys.map xU=(ys.map fun y=>(⟨y.toArray⟩:ByteArray)).map T.str:=by rw [List.map_map];rfl
 rw [e2]
 congr 1
 have hpz:(ys.map fun y=>(⟨y.toArray⟩:ByteArray)).Perm zs:=by
  have:=hpm.map (fun y=>(⟨y.toArray⟩:ByteArray))
  rw [List.map_map] at this
  have e3:zs.map ((fun y=>(⟨y.toArray⟩:ByteArray)) ∘ ByteArray.toList)=zs:=by
   refine (List.map_congr_left fun z _=>?_).trans (List.map_id zs)
   show (⟨z.toList.toArray⟩:ByteArray)=z
   rw [ByteArray.toList_eq]
  rwa [e3] at this
 refine zJ Bo ((hpz.trans hp).nodup_iff.2 hn) ?_ fun x=>(hpz.trans hp).mem_iff
 rw [List.pairwise_map]
 refine hs.imp fun {x y} h=>?_
 unfold ltS
 rw [e1,e1,Go.Proofs.bytesLess_eq]
 simp only [decide_eq_true_eq] at h
 exact decide_eq_false (List.not_lt.2 h)
end Go.TY
end
section
namespace Go.TY
open Go Go.DL Go.MM
theorem CS (a b:ByteArray):(a==b)=decide (a=b):=by
 obtain ⟨a⟩:=a
 obtain ⟨b⟩:=b
 by_cases h:a=b
 ·subst h
  rw [decide_eq_true rfl]
  show (a==a)=true
  simp
 ·rw [decide_eq_false (fun e=>h (ByteArray.mk.inj e))]
  show (a==b)=false
  exact beq_false_of_ne h
def esS (ks:List ByteArray):List (T×T):=ks.map fun s=>(T.str s,T.bool true)
theorem zg (s:ByteArray): ∀ks:List ByteArray,bz (.str s) (.bool true) (esS ks)=esS (if s∈ks then ks else ks++[s])
 |[]=>by simp [esS,bz]
 |k::ks=>by
  have ih:=zg s ks
  show cond (eqL (T.str s).cells (T.str k).cells) _ _=_
  have e:eqL (T.str s).cells (T.str k).cells=decide (s=k):=by
   show ((s==k)&&true)=_
   rw [Bool.and_true,CS]
  rw [e]
  by_cases h:s=k
  ·subst h
   rw [decide_eq_true rfl,if_pos (by simp)];rfl
  ·rw [decide_eq_false h,cond_false]
   show (T.str k,T.bool true)::bz (.str s) (.bool true) (esS ks)=_
   rw [ih]
   by_cases hm:s∈ks
   ·rw [if_pos hm,if_pos (by simp [hm])];rfl
   ·rw [if_neg hm,if_neg (by simp [h,hm])];rfl
section
variable {α:Type} [DecidableEq α]
theorem xZ: ∀{l acc:List α},(once acc l).length≤acc.length+l.length
 |[],acc=>Nat.le_refl _
 |x::l,acc=>by
  unfold once
  have:=xZ (l:=l) (acc:=if x∈acc then acc else acc++[x])
  rw [List.length_cons]
  split at this
  ·rw [if_pos (by assumption)];omega
  ·rw [List.length_append,List.length_singleton] at this
   rw [if_neg (by assumption)];omega
end
mutual
theorem wP: ∀r:RO,((sn r).flatMap tY).length≤r.wt
 |.mk k p f n a=>by
  have:=yK a
  rw [sn,List.flatMap_cons,List.length_append]
  have h:(tY (.mk k p f n a)).length≤p.nodes:=by
   unfold tY
   split
   ·show (th p).length≤_
    rw [vB,uY];exact Nat.le_refl _
   ·simp
  simp only [RO.wt];omega
theorem yK: ∀l:List RO,((sI l).flatMap tY).length≤s9 l
 |[]=>by simp [sI]
 |r::rs=>by
  have h1:=wP r
  have h2:=yK rs
  rw [sI,List.flatMap_append,List.length_append,s9];omega
end
theorem zl (r:RO):s8 r=uJ r:=by
 unfold s8 uJ
 rw [tZ]
 congr 1
 funext o
 unfold tY zk
 split
 ·rw [vB]
 ·rfl
theorem vn {β γ:Type} {g:β→List γ}: ∀{xs:List β},(∀ x∈xs,(g x).length≤1)→(xs.flatMap g).length≤xs.length
 |[],_=>Nat.le_refl _
 |x::xs,h=>by
  have h1:=h x (by simp)
  have h2:=vn (xs:=xs) fun y hy=>h y (by simp [hy])
  rw [List.flatMap_cons,List.length_append,List.length_cons];omega
def tl {β γ:Type} (g:β→List γ) (xs:List β) (k:Nat):List γ:=(xs.take k).flatMap g
theorem xE {β γ:Type} {g:β→List γ} {xs:List β} {k:Nat} {x:β} (h:xs[k]? =some x):tl g xs (k+1)=tl g xs k++g x:=by
 obtain ⟨hl,rfl⟩:=gsZ h
 unfold tl
 rw [List.take_succ_eq_append_getElem hl,List.flatMap_append]
 simp
theorem x9 {β γ:Type} {g:β→List γ} {xs:List β}:tl g xs xs.length=xs.flatMap g:=by
 unfold tl;rw [List.take_length]
end Go.TY
end
noncomputable section
namespace Go.TY
open Go Go.DL Go.Proofs
def c47:aQ:=(.seq (.region [oo 2 (.mov (.const .nil))] []) (.seq (.region [mv 3 0,oo 4 (.inl 78 [(.const .nil),(tm 3)]),mv 2 4] []) .ret))
theorem l47:(Tryz.f47.body.bind (bk Tryz.prog 5 [78]))=some c47:=by kernel_rfl
def c28:aQ:=(.seq (.region [oo 2 (.mov (.const .nil))] []) (.seq (.region [mv 4 0,oo 5 (.inl 47 [tm 4]),mv 3 5] []) (.seq (.region [mv 6 3,oo 7 (.inl 48 [tm 6])] []) (.seq (.region [mv 8 3,mv 2 8] []) .ret))))
theorem l28:(Tryz.f28.body.bind (bk Tryz.prog 9 [47,48]))=some c28:=by kernel_rfl
def c29:aQ:=(.seq (.region [oo 1 (.box 1 (tm 0)),oo 2 (.mov (.const .nilfn))] []) (.seq (.region [oo 3 (.mkfn 49 [tm 1]),mv 2 3] []) .ret))
theorem l29:(Tryz.f29.body.bind (bk Tryz.prog 4 []))=some c29:=by kernel_rfl
def c49:aQ:=(.seq (.region [ld 4 1,oo 5 (.mrng (tm 4))] []) (.block 0 (.loop (.seq (.region [oo 6 (.mnext (tm 5)),oo 7 (.ext (tm 6) 0)] []) (.seq (.cond (tm 7) .skip (.exit 0)) (.block 1 (.seq (.region [oo 8 (.ment (tm 5)),oo 9 (.ext (tm 8) 0),mv 3 9] []) (.seq (.sem 14 (rg0 3 Tryz.f49.body)) (.cond (tm 13) .ret .skip)))))))))
theorem l49:(Tryz.f49.body.bind (bk Tryz.prog 14 [1000003]))=some c49:=by kernel_rfl
end Go.TY
end
section
namespace Go.Proofs
open Go.Shelf
def Tryz.zC:Go.Shelf.Ren:=⟨fun|190=>48|125=>80|258=>79|128=>103|129=>104|302=>94|303=>95|304=>96|305=>97|306=>98|307=>99|308=>100|309=>101|310=>102|333=>113|329=>114|330=>115|334=>116|335=>117|336=>118|344=>120|n=>n,fun|31=>33|9=>9|3=>3|46=>114|0=>0|51=>141|53=>143|4=>4|183=>134|182=>133|131=>90|5=>5|218=>150|222=>144|228=>155|229=>156|n=>n,fun|n=>n⟩
theorem Tryz.CB:Go.Proofs.Lays.n190 Tryz.prog Tryz.zC:={
 mixed:=by kernel_rfl
 f125:=Tryz.func80.trans (congrArg some (by kernel_rfl))
 f128:=Tryz.func103.trans (congrArg some (by kernel_rfl))
 f129:=Tryz.func104.trans (congrArg some (by kernel_rfl))
 f190:=Tryz.func48.trans (congrArg some (by kernel_rfl))
 f258:=Tryz.func79.trans (congrArg some (by kernel_rfl))
 f302:=Tryz.func94.trans (congrArg some (by kernel_rfl))
 f303:=Tryz.func95.trans (congrArg some (by kernel_rfl))
 f304:=Tryz.func96.trans (congrArg some (by kernel_rfl))
 f305:=Tryz.func97.trans (congrArg some (by kernel_rfl))
 f306:=Tryz.func98.trans (congrArg some (by kernel_rfl))
 f307:=Tryz.func99.trans (congrArg some (by kernel_rfl))
 f308:=Tryz.func100.trans (congrArg some (by kernel_rfl))
 f309:=Tryz.func101.trans (congrArg some (by kernel_rfl))
 f310:=Tryz.func102.trans (congrArg some (by kernel_rfl))
 f329:=Tryz.func114.trans (congrArg some (by kernel_rfl))
 f330:=Tryz.func115.trans (congrArg some (by kernel_rfl))
 f333:=Tryz.func113.trans (congrArg some (by kernel_rfl))
 f334:=Tryz.func116.trans (congrArg some (by kernel_rfl))
 f335:=Tryz.func117.trans (congrArg some (by kernel_rfl))
 f336:=Tryz.func118.trans (congrArg some (by kernel_rfl))
 f344:=Tryz.func120.trans (congrArg some (by kernel_rfl))
 t0:=Tryz.underlying0
 a0:=Tryz.isAgg0
 z0:=Tryz.sizeOf0
 v0:=Tryz.zeroValue0
 t3:=Tryz.underlying3
 a3:=Tryz.isAgg3
 z3:=Tryz.sizeOf3
 v3:=Tryz.zeroValue3
 t4:=Tryz.underlying4
 a4:=Tryz.isAgg4
 z4:=Tryz.sizeOf4
 v4:=Tryz.zeroValue4
 t5:=Tryz.underlying5
 a5:=Tryz.isAgg5
 z5:=Tryz.sizeOf5
 v5:=Tryz.zeroValue5
 t9:=Tryz.underlying9
 a9:=Tryz.isAgg9
 z9:=Tryz.sizeOf9
 v9:=Tryz.zeroValue9
 t31:=Tryz.underlying33
 a31:=Tryz.isAgg33
 z31:=Tryz.sizeOf33
 v31:=Tryz.zeroValue33
 t46:=Tryz.underlying114
 a46:=Tryz.isAgg114
 z46:=Tryz.sizeOf114
 v46:=Tryz.zeroValue114
 t51:=Tryz.underlying141
 a51:=Tryz.isAgg141
 z51:=Tryz.sizeOf141
 v51:=Tryz.zeroValue141
 t53:=Tryz.underlying143
 a53:=Tryz.isAgg143
 z53:=Tryz.sizeOf143
 v53:=Tryz.zeroValue143
 t131:=Tryz.underlying90
 a131:=Tryz.isAgg90
 z131:=Tryz.sizeOf90
 v131:=Tryz.zeroValue90
 t182:=Tryz.underlying133
 a182:=Tryz.isAgg133
 z182:=Tryz.sizeOf133
 v182:=Tryz.zeroValue133
 t183:=Tryz.underlying134
 a183:=Tryz.isAgg134
 z183:=Tryz.sizeOf134
 v183:=Tryz.zeroValue134
 t218:=Tryz.underlying150
 a218:=Tryz.isAgg150
 z218:=Tryz.sizeOf150
 v218:=Tryz.zeroValue150
 t222:=Tryz.underlying144
 a222:=Tryz.isAgg144
 z222:=Tryz.sizeOf144
 v222:=Tryz.zeroValue144
 t228:=Tryz.underlying155
 a228:=Tryz.isAgg155
 z228:=Tryz.sizeOf155
 v228:=Tryz.zeroValue155
 t229:=Tryz.underlying156
 a229:=Tryz.isAgg156
 z229:=Tryz.sizeOf156
 v229:=Tryz.zeroValue156 }
end Go.Proofs
end
noncomputable section
namespace Go.TY
open Go Go.DL Go.MM Go.Proofs
abbrev enb:ByteArray→T:=T.str
abbrev mpb (ks:List ByteArray) (vs:List T):T:=.mapd false [.str] (ks.map enb) vs
def tv (id:Nat) (c:Option Code):Array Oper:=match rg0 id c with
 |.region _ ops _=>ops
 |_=> #[]
abbrev fAb:Option Code:=Tryz.f78.body
abbrev fKb:Option Code:=Tryz.f49.body
theorem bAb:fAb=some (.seq (.region 0 (tv 0 fAb) false) (.seq (.seq (.region 1 (tv 1 fAb) false)
  (.block 0 (.rangeFunc (.tmp 6) #[7] (.region 2 (tv 2 fAb) false) (.block 1 (.region 3 (tv 3 fAb) false))))) (.seq (.region 4 (tv 4 fAb) false) .ret))):=by kernel_rfl
abbrev DZ:List DI:=[⟨some 5,.mov (.tmp 7),none,[]⟩]
abbrev D0:List DI:=[⟨some 8,.load 1 false (.tmp 2),none,[]⟩,⟨some 9,.mov (.tmp 5),none,[]⟩,⟨some 10,.buildS 9 1 1 [.str ⟨#[]⟩] [(0,.tmp 9)],none,[1]⟩,
 ⟨some 11,.append 33 9 1 16 (.tmp 8) (.tmp 10),none,[0,2]⟩,⟨none,.store 1 (.tmp 2) (.tmp 11),none,[3,3,0,1,2,3]⟩]
theorem DG:bN Tryz.prog 13 [] (tv 0 fAb) (tv 0 fAb).toList=some [⟨some 2,.box 1 (.tmp 0),none,[]⟩,⟨some 4,.mov (.const .nil),none,[]⟩]:=by kernel_rfl
theorem DH:bN Tryz.prog 13 [] (tv 1 fAb) (tv 1 fAb).toList=some [⟨some 6,.mov (.tmp 1),none,[]⟩]:=by kernel_rfl
theorem DJ:bN Tryz.prog 13 [] (tv 2 fAb) (tv 2 fAb).toList=some DZ:=by kernel_rfl
theorem DK:bN Tryz.prog 13 [] (tv 3 fAb) (tv 3 fAb).toList=some D0:=by kernel_rfl
theorem DM:bN Tryz.prog 13 [] (tv 4 fAb) (tv 4 fAb).toList=some [⟨some 12,.load 1 false (.tmp 2),none,[]⟩,⟨some 4,.mov (.tmp 12),none,[0,0]⟩]:=by kernel_rfl
abbrev yKb:Array Oper:=tv 3 fKb
theorem bKb:rg0 3 fKb= .region 3 yKb false:=by kernel_rfl
theorem DN:dK Tryz.prog 14 yKb [0,1]=some [⟨some 10,.mov (.tmp 0),none,[]⟩,⟨some 11,.mov (.tmp 3),none,[]⟩]:=by kernel_rfl
theorem DO:dK Tryz.prog 14 yKb [3]=some [⟨some 13,.not (.tmp 12),none,[2]⟩]:=by kernel_rfl
theorem DP: ∃o ats,yKb[2]? =some o∧o.guard=none∧o.op= .call {callee:=.value (.tmp 10),args:= #[.tmp 11],argTypes:=ats }∧o.dst=some 12:=by
 refine ⟨((tv 3 fKb)[2]?).getD default,(match (((tv 3 fKb)[2]?).getD default).op with|.call c=>c.argTypes|_=> #[]),by kernel_rfl,by kernel_rfl,by kernel_rfl,by kernel_rfl⟩
abbrev C1 (l d:Nat) (f:FuncId) (tmps:Array Value):aa→World→Prop:=mX l (cK f tmps 7 (.region 2 (tv 2 fAb) false) (.block 1 (.region 3 (tv 3 fAb) false)) d)
abbrev WKb (l:Nat) (C:aa→World→Prop) (ks:List ByteArray) (vs:List T) (ix:List Nat):Wk:=
 {sl:=[(0,.raw (.func (.yield l) #[] #[])),(5,.ptr 2005 0)],bx:=[(2,.v [.own 3011 9 1 (C8 enb e0 ks ix)]),(2005,.itd (esK enb ks vs) ix)],gh:=[(0,[(2,.ptr 2 0)])],off:=2000,cx:=C }
theorem CV (l d:Nat) (f:FuncId) (tmps:Array Value) (ht:tmps.size=13) (ks:List ByteArray) (vs:List T) (hvs:vs.length=ks.length) (hl:ks.length<2^40) (st0:St)
  (h0:st0=({sl:=[(2,.ptr 2 0),(6,.fn 49 [.t (.cptr [mpb ks vs] 0)])],bx:=[(2,.v [.own 3011 9 1 []])]}:Wk).mk'):
  wpC Tryz.prog c49 (st0.iter l (cK f tmps 7 (.region 2 (tv 2 fAb) false) (.block 1 (.region 3 (tv 3 fAb) false)) d) [.t (.cptr [mpb ks vs] 0)] 2000)
   (qw st0 fun st=>st.sl 2= .ptr 2 0∧(∃ xs,w9 enb e0 ks xs∧st.bx 2=some (.v [.own 3011 9 1 xs]))∧ ∀S w,st.cx S w):=by
 subst h0
 have hes:(esK enb ks vs).length=ks.length:=by simp [hvs]
 repeat' ((conv=>whnf);first|exact trivial|refine nT_ ?_|refine aE1 ?_|refine aE0 ?_|refine aN1 ?_|refine aN0 ?_|refine aD1 ?_|refine aD0 ?_|refine nE_ (fun hq=>?_) (fun hq=>?_)|refine nN_ (fun hq=>?_) (fun hq=>?_)|refine nD_ (fun hq=>?_) (fun hq=>?_)|refine rb1 ?_|refine rb0 ?_|refine rbx ?_|refine rix ?_|refine aS ?_|fail)
 refine qN 0 (α:=List Nat) (β:=List Nat) (fun ix=>WKb l (C1 l d f tmps) ks vs ix) (fun ix=>ix.Nodup∧ ∀j∈ix,j<ks.length) (fun ix=>ks.length - ix.length)
  (fun ix=>WKb l (C1 l d f tmps) ks vs ix) (fun ix=>ix.Perm (List.range ks.length)) [] ⟨List.nodup_nil,by simp⟩ ?_ ?_ ?_
 ·exact ⟨⟨.same _,.same _,trivial⟩,⟨.same _,.same _,trivial⟩,⟨⟨.same _,trivial⟩,trivial⟩,rfl,fun _ _ h=>h,rfl⟩
 ·rintro ix ⟨hnd,hix⟩
  refine And.intro (fun j hj=>by rw [hes];exact hix j hj) (And.intro ?_ ?_)
  ·intro j e he hj
   obtain ⟨he1,hjl⟩:=Cx (d:=e0) he
   have hent:=Bh _ ix j e he
   have hje:(ix++[j]).getLast?.getD 0<(esK enb ks vs).length:=by rw [List.getLast?_concat,hes];exact hjl
   obtain ⟨e1,e2⟩:=e
   dsimp only at he1 hent
   subst he1
   have hixl:ix.length≤ks.length:=by
    have:=hnd.length_le_of_subset (l₂:=List.range ks.length) (fun j hj=>List.mem_range.2 (hix j hj))
    simpa using this
   have hnd':(ix++[j]).Nodup:=by
    rw [List.nodup_append]
    exact ⟨hnd,by simp,fun a ha b hb=>by rw [List.mem_singleton.1 hb];exact fun e=>hj (e▸ha)⟩
   have hix': ∀i∈ix++[j],i<ks.length:=fun i hi=>by
    rcases List.mem_append.1 hi with h|h
    ·exact hix i h
    ·rw [List.mem_singleton.1 h];exact hjl
   have hixl':(ix++[j]).length≤ks.length:=by
    have:=hnd'.length_le_of_subset (l₂:=List.range ks.length) (fun j hj=>List.mem_range.2 (hix' j hj))
    simpa using this
   repeat' ((conv=>whnf);first|exact trivial|refine nv_ (.tup [enb (ks.getD j e0),e2]) hent ?_|refine nT_ ?_|refine aE1 ?_|refine aE0 ?_|refine aN1 ?_|refine aN0 ?_|refine aD1 ?_|refine aD0 ?_|refine nE_ (fun hq=>?_) (fun hq=>?_)|refine nN_ (fun hq=>?_) (fun hq=>?_)|refine nD_ (fun hq=>?_) (fun hq=>?_)|refine rb1 ?_|refine rb0 ?_|refine rbx ?_|refine rix ?_|(refine And.intro (by first|exact ⟨by simp,hje⟩|fail) ?_)|refine aS ?_|fail)
   obtain ⟨o,ats,o1,o2,o3,o4⟩:=DP
   have hsem: ∀(st:St) (Q:av→St→Prop),pP Tryz.prog 14 (.region 3 yKb false) st Q→pP Tryz.prog 14 (rg0 3 fKb) st Q:=fun st Q h=>by rw [bKb];exact h
   refine hsem _ _ ?_
   refine qO (P:=Tryz.prog) (k1:=[0,1]) (k:=2) (k2:=[3]) (by kernel_rfl) DN rfl DO rfl o1 o2 o3 o4 (by decide) (p:=7) ht (by decide) DJ rfl DK rfl 3000 (l:=l) (fn:=f) (dd:=d) (id1:=2) (id2:=3) (bl:=1) ?_
   refine ⟨fun _ _ h=>h,rfl,?_⟩
   repeat' ((conv=>whnf);first|exact trivial|refine nT_ ?_|refine aE1 ?_|refine aE0 ?_|refine aN1 ?_|refine aN0 ?_|refine aD1 ?_|refine aD0 ?_|refine nE_ (fun hq=>?_) (fun hq=>?_)|refine nN_ (fun hq=>?_) (fun hq=>?_)|refine nD_ (fun hq=>?_) (fun hq=>?_)|refine rb1 ?_|refine rb0 ?_|refine rbx ?_|refine rix ?_|(refine And.intro (by first|exact fun _ _=>trivial|exact ⟨rfl,nlZ rfl⟩|((simp;omega);done)|exact .inl rfl|fail) ?_)|refine aS ?_|fail)
   refine ⟨ix++[j],⟨hnd',hix'⟩,by rw [List.length_append];simp at hixl' ⊢;omega,?_⟩
   refine ⟨⟨.same _,.same _,trivial⟩,⟨?_,.same _,trivial⟩,⟨⟨.same _,trivial⟩,trivial⟩,rfl,fun _ _ h=>h,rfl⟩
   refine .v _ _ ⟨rO ?_,trivial⟩
   simp [C8]
  ·intro hall
   repeat' ((conv=>whnf);first|exact trivial|refine nT_ ?_|refine aE1 ?_|refine aE0 ?_|refine aN1 ?_|refine aN0 ?_|refine aD1 ?_|refine aD0 ?_|refine nE_ (fun hq=>?_) (fun hq=>?_)|refine nN_ (fun hq=>?_) (fun hq=>?_)|refine nD_ (fun hq=>?_) (fun hq=>?_)|refine rb1 ?_|refine rb0 ?_|refine rbx ?_|refine rix ?_|refine aS ?_|fail)
   refine ⟨ix,Af hnd hix (fun j hj=>hall j (by rw [hes];exact hj)),?_⟩
   exact ⟨⟨.same _,.same _,trivial⟩,⟨.same _,.same _,trivial⟩,⟨⟨.same _,trivial⟩,trivial⟩,rfl,fun _ _ h=>h,rfl⟩
 rintro ix hp
 repeat' ((conv=>whnf);first|exact trivial|refine nT_ ?_|refine aE1 ?_|refine aE0 ?_|refine aN1 ?_|refine aN0 ?_|refine aD1 ?_|refine aD0 ?_|refine nE_ (fun hq=>?_) (fun hq=>?_)|refine nN_ (fun hq=>?_) (fun hq=>?_)|refine nD_ (fun hq=>?_) (fun hq=>?_)|refine rb1 ?_|refine rb0 ?_|refine rbx ?_|refine rix ?_|refine aS ?_|fail)
 exact ⟨⟨_,⟨ix,hp,rfl⟩,rfl⟩,fun _ _=>trivial⟩
abbrev uT (ks:List ByteArray) (vs:List T):T:=.clos 49 [.cptr [mpb ks vs] 0]
theorem zc (ks:List ByteArray) (vs:List T) (hvs:vs.length=ks.length) (hl:ks.length<2^40):fE Tryz.prog 78 [.nil,uT ks vs] 9 1 (w9 enb e0 ks):=by
 refine pY Tryz.func78 bAb rfl (nlZ rfl) ?_
 intro S w a0 hsr hdf
 let K0:St→Prop:=fun st=>aw Tryz.prog [⟨some 6,.mov (.tmp 1),none,[]⟩] st fun st=>
  bQ {sl:=[(2,.ptr 2 0),(6,.t (uT ks vs))],bx:=[(2,.d 1 [.nil])]} st
 have hK0:aw Tryz.prog [⟨some 2,.box 1 (.tmp 0),none,[]⟩,⟨some 4,.mov (.const .nil),none,[]⟩] (dC [.nil,uT ks vs]) K0:=by
  repeat' ((conv=>whnf);first|exact trivial|refine nT_ ?_|refine aE1 ?_|refine aE0 ?_|refine aN1 ?_|refine aN0 ?_|refine aD1 ?_|refine aD0 ?_|refine nE_ (fun hq=>?_) (fun hq=>?_)|refine nN_ (fun hq=>?_) (fun hq=>?_)|refine nD_ (fun hq=>?_) (fun hq=>?_)|refine rb1 ?_|refine rb0 ?_|refine rbx ?_|refine rix ?_|refine aS ?_|fail)
  exact ⟨⟨.same _,.same _,trivial⟩,⟨.same _,trivial⟩,trivial,rfl,fun _ _ _=>trivial,rfl⟩
 refine wp_seq (nq (X:=[]) (N:=13) hsr DG (fun a1 w1 h1=>?_) hK0)
 obtain ⟨E1,s1,rfl,k1,k2,k3⟩:=h1
 refine wp_seq (wp_seq (nq (X:=[]) k1 DH (fun a2 w2 h2=>?_) k3))
 obtain ⟨E2,s2,rfl,k4,k5,k6⟩:=h2
 obtain ⟨E3,e3,k7⟩:=k4.bQ k6
 rw [← e3]
 have k8:=k7.ru (k:=6) (k7.sl 6).q8
 obtain ⟨E4,e4,k10⟩:=SR.bQ (a:=a2) (s:={sl:=[(2,.ptr 2 0),(6,.fn 49 [.t (.cptr [mpb ks vs] 0)])],bx:=[(2,.v [.own 3011 9 1 []])]}) k8 ⟨⟨.same _,.same _,trivial⟩,⟨.dv _ _ _ ⟨.nil _ _ _,trivial⟩,trivial⟩,trivial,rfl,fun _ _ _=>trivial,rfl⟩
 rw [← e4]
 refine wp_block ?_
 refine qS mixed k10 (fun _ _=>trivial) (y:=.tmp 6) rfl (gf:=49) (caps:=[.t (.cptr [mpb ks vs] 0)]) rfl Tryz.func49 l49 rfl rfl rfl (nlZ rfl) 2000
  (K:=fun st=>st.sl 2= .ptr 2 0∧(∃ xs,w9 enb e0 ks xs∧st.bx 2=some (.v [.own 3011 9 1 xs]))∧ ∀S w,st.cx S w) (fun l d f tmps ht=>?_) (fun a5 w5 h5=>?_)
 ·exact CV l d f tmps ht ks vs hvs hl _ rfl
 ·obtain ⟨S0',E5,s5,D,rfl,q1,q2,q3,q4,q5,q6,r1,⟨xs,hxs,r2⟩,r3⟩:=h5
  have q6':a5.defers=[{target:=.collected D,args:= #[]}]:=by rw [q6,k5,k2,hdf]
  show Code.wp _ _ _ _ _
  refine wp_seq (nq (X:=[]) q1 DM (K:=fun st=>(∀ S w,st.cx S w)∧st.sl 4= .own 3011 9 1 xs) (fun a6 w6 h6=>?_) ?_)
  ·obtain ⟨E6,s6,rfl,p1,p2,p3,p4⟩:=h6
   obtain ⟨js,hjs,rfl⟩:=hxs
   refine wp_ret ⟨.inr rfl,S0',E6,s6,D,rfl,p1,q2,q3,q4,q5,by rw [p2,q6'],p3,_,_,⟨js,hjs,rfl⟩,yI (fun _=>rfl) (fun _=>rfl) js ks,?_,.inl ⟨3011,rfl⟩⟩
   have:b8 s6 Tryz.f78.results.toList=some [s6.sl 4]:=by
    rw [show Tryz.f78.results.toList=[.tmp 4] from rfl];rfl
   rw [this,p4]
  ·obtain ⟨sl5,bx5,gh5,off5,cx5⟩:=s5
   dsimp only at r1 r2 r3
   obtain ⟨g,rfl⟩: ∃g,sl5=upd g 2 (.ptr 2 0):=⟨sl5,(xP r1).symm⟩
   obtain ⟨b,rfl⟩: ∃b,bx5=upd b 2 (some (.v [.own 3011 9 1 xs])):=⟨bx5,(xP r2).symm⟩
   exact ⟨r3,rfl⟩
theorem z7 (ks:List ByteArray) (vs:List T) (hvs:vs.length=ks.length) (hl:ks.length<2^40):fE Tryz.prog 47 [uT ks vs] 9 1 (w9 enb e0 ks):=by
 refine qo (rs:=[.tmp 2]) mixed Tryz.func47 l47 rfl rfl rfl (nlZ rfl) ?_
 repeat' ((conv=>whnf);first|exact trivial|refine qZ (ts:=[.nil,uT ks vs]) rfl (zc ks vs hvs hl) (fun xs hx=>?_)|refine nT_ ?_|refine aE1 ?_|refine aE0 ?_|refine aN1 ?_|refine aN0 ?_|refine aD1 ?_|refine aD0 ?_|refine nE_ (fun hq=>?_) (fun hq=>?_)|refine nN_ (fun hq=>?_) (fun hq=>?_)|refine nD_ (fun hq=>?_) (fun hq=>?_)|refine rb1 ?_|refine rb0 ?_|refine rbx ?_|refine rix ?_|refine aS ?_|fail)
 obtain ⟨js,hjs,rfl⟩:=hx
 exact ⟨_,_,⟨js,hjs,rfl⟩,yI (fun _=>rfl) (fun _=>rfl) js ks,rfl,.inl ⟨_,rfl⟩⟩
theorem Bd:kp Tryz.prog 48 encStr (fun x y:List UInt8=>decide (x≤y)):=kp.str Tryz.CB rfl (aZ Tryz.func48 rfl rfl)
theorem yH (ks:List ByteArray) (vs:List T) (hvs:vs.length=ks.length) (hl:ks.length<2^40) (hn:ks.Nodup):ku Tryz.prog 28 [uT ks vs] (.slice 1 ((x4 ks).map enb)):=by
 refine qG (rs:=[.tmp 2]) mixed Tryz.func28 l28 rfl rfl rfl (nlZ rfl) ?_
 repeat' ((conv=>whnf);first|exact trivial|refine qR (ts:=[uT ks vs]) rfl (z7 ks vs hvs hl) rfl (fun h0=>?_) (fun xs hx hc=>?_)|refine nT_ ?_|refine aE1 ?_|refine aE0 ?_|refine aN1 ?_|refine aN0 ?_|refine aD1 ?_|refine aD0 ?_|refine nE_ (fun hq=>?_) (fun hq=>?_)|refine nN_ (fun hq=>?_) (fun hq=>?_)|refine nD_ (fun hq=>?_) (fun hq=>?_)|refine rb1 ?_|refine rb0 ?_|refine rbx ?_|refine rix ?_|refine aS ?_|fail)
 ·obtain ⟨zs,hp,h0⟩:=yJ h0
  have:zs=[]:=by
   cases zs with
   |nil=>rfl
   |cons z zs=>cases h0
  subst this
  have:ks=[]:=List.nil_perm.1 hp
  subst this
  repeat' ((conv=>whnf);first|exact trivial|refine pR Bd ?_|refine nT_ ?_|refine aE1 ?_|refine aE0 ?_|refine aN1 ?_|refine aN0 ?_|refine aD1 ?_|refine aD0 ?_|refine nE_ (fun hq=>?_) (fun hq=>?_)|refine nN_ (fun hq=>?_) (fun hq=>?_)|refine nD_ (fun hq=>?_) (fun hq=>?_)|refine rb1 ?_|refine rb0 ?_|refine rbx ?_|refine rix ?_|refine aS ?_|fail)
  exact ⟨.t .nil,rfl,.nil 1⟩
 ·obtain ⟨zs,hp,rfl⟩:=yJ hx
  have hzl:zs.length<2^40:=by rw [hp.length_eq];exact hl
  have hfl:=BN (enc:=enb) (fun _=>rfl) zs
  have hle:(zs.map enb).length=zs.length:=List.length_map _
  have hsl:(x4 ks).length=zs.length:=by
   have e:=congrArg List.length (zU hn hp)
   simp only [List.length_map,List.length_mergeSort] at e
   omega
  repeat' ((conv=>whnf);first|exact trivial|(refine qQ (n:=5) (off:=0) (len:=(zs.map enb).length) (m:=(zs.map enb).length * 1) (ts:=(zs.map enb).flatMap T.cells) (encT:=xU) Bd rfl (zs.map ByteArray.toList) ?_ ?_ (by omega) (fun a S w v h=>by cases h;rfl) (fun a S w=>.str _) (fun _=>rfl) ?_)|refine nT_ ?_|refine aE1 ?_|refine aE0 ?_|refine aN1 ?_|refine aN0 ?_|refine aD1 ?_|refine aD0 ?_|refine nE_ (fun hq=>?_) (fun hq=>?_)|refine nN_ (fun hq=>?_) (fun hq=>?_)|refine nD_ (fun hq=>?_) (fun hq=>?_)|refine rb1 ?_|refine rb0 ?_|refine rbx ?_|refine rix ?_|refine aS ?_|fail)
  ·rw [hfl,List.drop_zero,List.take_of_length_le (by omega)]
   exact (by rw [List.map_map];exact List.map_congr_left fun z _=>(Cw z).symm)
  ·simp
  ·repeat' ((conv=>whnf);first|exact trivial|refine nT_ ?_|refine aE1 ?_|refine aE0 ?_|refine aN1 ?_|refine aN0 ?_|refine aD1 ?_|refine aD0 ?_|refine nE_ (fun hq=>?_) (fun hq=>?_)|refine nN_ (fun hq=>?_) (fun hq=>?_)|refine nD_ (fun hq=>?_) (fun hq=>?_)|refine rb1 ?_|refine rb0 ?_|refine rbx ?_|refine rix ?_|refine aS ?_|fail)
   have e:=zU hn hp
   refine ⟨.view 5 0 (zs.map enb).length 1,rfl,.view 5 0 (zs.map enb).length 1 ((zs.map enb).length * 1) (aJ ((zs.map enb).flatMap T.cells) 0 (zs.map enb).length (((zs.map ByteArray.toList).mergeSort (fun x y:List UInt8=>decide (x≤y))).map xU)) _ [5] rfl ?_ ?_⟩
   ·rw [yM (by rw [hfl]),e]
    intro t ht
    obtain ⟨z,_,rfl⟩:=List.mem_map.1 ht
    rfl
   ·show (cond (Nat.blt 0 1&&Nat.ble (0+(zs.map enb).length * 1) ((zs.map enb).length * 1)) (some (T.slice 1 (chunk 1 (zs.map enb).length ((aJ ((zs.map enb).flatMap T.cells) 0 (zs.map enb).length (((zs.map ByteArray.toList).mergeSort (fun x y:List UInt8=>decide (x≤y))).map xU)).drop 0)),[5])) none)=_
    rw [yM (by rw [hfl]),e,Nat.zero_add,List.drop_zero,zO _ _ (by rw [List.length_map];omega)]
    have:Nat.ble ((zs.map enb).length * 1) ((zs.map enb).length * 1)=true:=Nat.ble_eq_true_of_le (Nat.le_refl _)
    rw [this]
    rfl
theorem zW (ks:List ByteArray) (vs:List T):DCalls Tryz.prog 29 [mpb ks vs] (uT ks vs):=by
 refine qB (rs:=[.tmp 2]) mixed Tryz.func29 l29 rfl rfl rfl (r:=[uT ks vs]) (nlZ rfl) ?_
 repeat' ((conv=>whnf);first|exact trivial|refine nT_ ?_|refine aE1 ?_|refine aE0 ?_|refine aN1 ?_|refine aN0 ?_|refine aD1 ?_|refine aD0 ?_|refine nE_ (fun hq=>?_) (fun hq=>?_)|refine nN_ (fun hq=>?_) (fun hq=>?_)|refine nD_ (fun hq=>?_) (fun hq=>?_)|refine rb1 ?_|refine rb0 ?_|refine rbx ?_|refine rix ?_|refine aS ?_|fail)
end Go.TY
end
section
namespace Go.TY
open Go Go.DL Go.MM Go.Proofs
attribute [local irreducible] aG gM WCM YC
def gr:RP→List ByteArray:=fun x=>if sk x.field e0 then [] else [x.field]
def vj (r:RO) (k:Nat):List (Nat×BX):=[(3,.v [.mp 5]),(5,.m false [.str] (esS (once [] (tl gr (s8 r) k))) none)]
theorem Du (r:RO):oW (fun n=>10≤n∧n<100) 100 (fun _ _=>True) (vj r) (fun _ cx _=>cx=(fun _ _=>True)∧False) where
 fh:=fun n h=>h.2
 nm:=fun k p hp=>by
  simp only [vj,List.mem_cons,List.not_mem_nil,or_false] at hp
  rcases hp with rfl|rfl <;> exact ⟨by dsimp only;omega,by dsimp only;omega⟩
 nms:=fun c cx o ho=>ho.2.elim
 cov:=fun k k' p hp=>by
  simp only [vj,List.mem_cons,List.not_mem_nil,or_false] at hp ⊢
  rcases hp with rfl|rfl
  ·exact ⟨_,Or.inl rfl,rfl⟩
  ·exact ⟨_,Or.inr rfl,rfl⟩
 covs:=fun c cx o ho=>ho.2.elim
 safe:=fun k p hp=>by
  simp only [vj,List.mem_cons,List.not_mem_nil,or_false] at hp
  rcases hp with rfl|rfl
  ·intro c hc
   rw [List.mem_singleton.1 hc]
   exact .mp 5 ⟨(5,_),List.mem_cons_of_mem _ (List.mem_singleton.2 rfl),rfl⟩
  ·exact trivial
 safes:=fun c cx o ho=>ho.2.elim
 cxd:=fun c cx o ho=>ho.2.elim
 cxo_:=rK
 nd:=fun k=>by show ([3,5]:List Nat).Nodup;decide
theorem CM (r:RO) (hr:r.wt<2^39):DCalls Tryz.prog 6 [.agg (sg r)] (.slice 1 ((reads r).map T.str)):=by
 rw [← xR]
 refine qC Tryz.func6 hb6 rfl (r:=[.slice 1 ((reads r).map T.str)]) (nlZ rfl) ?_
 have hlen:(sn r).length≤r.wt:=by rw [tZ,uw];exact r.vK
 have hwt: ∀o∈sn r,o.wt≤r.wt:=by rw [tZ];exact vT r
 have hpl:(s8 r).length≤r.wt:=wP r
 rw [show Tryz.f6.ntmps=18 from rfl,show Tryz.f6.results.toList=[.tmp 2] from rfl,k6]
 have ht:=CN r
 rw [s7] at ht
 refine aG.seq (FU ?_)
 repeat' ((conv=>whnf);first|exact trivial|refine nT_ ?_|refine aE1 ?_|refine aE0 ?_|refine aN1 ?_|refine aN0 ?_|refine aD1 ?_|refine aD0 ?_|refine nE_ (fun hq=>?_) (fun hq=>?_)|refine nN_ (fun hq=>?_) (fun hq=>?_)|refine nD_ (fun hq=>?_) (fun hq=>?_)|refine rb1 ?_|refine rb0 ?_|refine rbx ?_|refine rix ?_|(refine And.intro (by first|exact tz _|fail) ?_)|refine aS ?_|fail)
 refine aG.seq (FW ?_)
 repeat' ((conv=>whnf);first|exact trivial|refine nT_ ?_|refine aE1 ?_|refine aE0 ?_|refine aN1 ?_|refine aN0 ?_|refine aD1 ?_|refine aD0 ?_|refine nE_ (fun hq=>?_) (fun hq=>?_)|refine nN_ (fun hq=>?_) (fun hq=>?_)|refine nD_ (fun hq=>?_) (fun hq=>?_)|refine rb1 ?_|refine rb0 ?_|refine rbx ?_|refine rix ?_|refine aS ?_|fail)
 refine aG.seq (aG.seq (FY ?_))
 repeat' ((conv=>whnf);first|exact trivial|refine rq _ (ht) ?_|refine nT_ ?_|refine aE1 ?_|refine aE0 ?_|refine aN1 ?_|refine aN0 ?_|refine aD1 ?_|refine aD0 ?_|refine nE_ (fun hq=>?_) (fun hq=>?_)|refine nN_ (fun hq=>?_) (fun hq=>?_)|refine nD_ (fun hq=>?_) (fun hq=>?_)|refine rb1 ?_|refine rb0 ?_|refine rbx ?_|refine rix ?_|(refine And.intro (by first|exact tz _|fail) ?_)|refine aS ?_|fail)
 refine aG.bQ (s:={sl:=[(3,.ptr 3 0),(7,.t (.clos 45 [.cptr (sP r) 0]))],bx:=[(3,.v [.mp 5]),(5,.m false [.str] [] none)]}) (by repeat' (first|exact trivial|exact LeV.same _|exact LeB.same _|exact rfl|exact fun _ _ _=>trivial|exact lI|exact LeV.nil _ _ _|exact lB|refine r9 ?_|refine rO ?_|refine And.intro ?_ ?_)) ?_
 refine aG.block (zG (N:=18) rfl r rfl 100 (fun n=>10≤n∧n<100) 100 (Nat.le_refl _) (by omega) (fun o ho=>by have h1:=hwt o ho;rw [vB,uY];obtain ⟨k,p,f,n,a⟩:=o;simp only [RO.wt] at h1;show p.nodes<_;omega) (fun n h=>re fun p hp=>?_) (fun n h=>re fun p hp=>?_) (by exact rL) (outs:=vj r) (stop:=fun _ cx _=>cx=(fun _ _=>True)∧False) ?_ (fun l0 D fn tmps hN=>?_) ?_ (fun c cx o h=>h.2.elim))
 ·simp only [List.mem_cons,List.not_mem_nil,or_false] at hp
  rcases hp with rfl|rfl <;> (dsimp only;omega)
 ·simp only [List.mem_cons,List.not_mem_nil,or_false] at hp
  rcases hp with rfl|rfl <;> (dsimp only;omega)
 ·intro q hq
  simp only [vj,List.mem_cons,List.not_mem_nil,or_false] at hq
  rcases hq with rfl|rfl <;> rfl
 ·refine dF.top (d:=4) (n:=5) (lo:=10) (hi:=100) (stop:=fun _ _=>False) (Du r) (fun n h1 h2=>⟨h1,h2⟩) hN (by decide) (fun hw=>F0 hw) rfl (by decide) (by decide) (fun x hx=>?_) (fun k cs b G C hk hcs=>?_)
  ·obtain ⟨t,_,rfl⟩:=List.mem_map.1 hx
   exact ⟨_,sD t,sQ t⟩
  rw [List.getElem?_map,Option.map_eq_some_iff] at hk
  obtain ⟨t,htk,hte⟩:=hk
  rw [sD] at hte
  obtain rfl:sj t=cs:=T.agg.inj hte
  have hfs:=xE (g:=gr) htk
  have hos:vj r k=[(3,.v [.mp 5]),(5,.m false [.str] (esS (once [] (tl gr (s8 r) k))) none)]:=rfl
  rw [hos]
  generalize hks:once [] (tl gr (s8 r) k)=ks
  have endN: ∀s:St,s.gh=G→s.cx=C→(∀ q, ¬(10≤q∧q<100)→s.bx q=aH b [(3,.v [.mp 5]),(5,.m false [.str] (esS (once [] (tl gr (s8 r) (k+1)))) none)] q)→RB b G C 10 100 (vj r (k+1)) (fun _ _=>False) .normal s:=fun s h1 h2 h3=>⟨h1,h2,_,h3,rfl⟩
  have same:gr t=[]→once [] (tl gr (s8 r) (k+1))=ks:=fun h=>by rw [hfs,h,List.append_nil,hks]
  have more: ∀s,gr t=[s]→once [] (tl gr (s8 r) (k+1))=if s∈ks then ks else ks++[s]:=fun s h=>by rw [hfs,h,wZ,hks]
  generalize once [] (tl gr (s8 r) (k+1))=ks' at *
  clear hte hks hos hfs
  refine F3 ?_
  obtain ⟨kd,f,n,m,args⟩:=t
  have hE:=sZ f e0
  have hN:(!(f.toList==e0.toList))= !(sk f e0):=by rw [hE]
  cases hb:sk f e0 with
  |true=>
   have hg:=same (by unfold gr;exact if_pos hb)
   subst hg
   rw [hb] at hN
   repeat' ((conv=>whnf);first|exact trivial|refine nb_ _ hN ?_|refine nT_ ?_|refine aE1 ?_|refine aE0 ?_|refine aN1 ?_|refine aN0 ?_|refine aD1 ?_|refine aD0 ?_|refine nE_ (fun hq=>?_) (fun hq=>?_)|refine nN_ (fun hq=>?_) (fun hq=>?_)|refine nD_ (fun hq=>?_) (fun hq=>?_)|refine rb1 ?_|refine rb0 ?_|refine rbx ?_|refine rix ?_|(refine And.intro (by first|exact ⟨rfl,trivial⟩|fail) ?_)|refine aS ?_|fail)
   (conv=>whnf)
   refine endN _ rfl rfl fun q hq=>?_
   have hm:=qL (b:=b) hq
   show cond (Nat.beq q 14) _ (cond (Nat.beq q 3) _ (cond (Nat.beq q 5) _ (gy 10 100 b q)))=cond (Nat.beq q 3) _ (cond (Nat.beq q 5) _ (b q))
   rw [eL (show q≠14 by omega),hm];rfl
  |false=>
   have hmr:=more f (by unfold gr;exact if_neg (show ¬(sk f e0=true) by rw [hb];simp))
   rw [hb] at hN
   repeat' ((conv=>whnf);first|exact trivial|refine nb_ _ hN ?_|refine nT_ ?_|refine aE1 ?_|refine aE0 ?_|refine aN1 ?_|refine aN0 ?_|refine aD1 ?_|refine aD0 ?_|refine nE_ (fun hq=>?_) (fun hq=>?_)|refine nN_ (fun hq=>?_) (fun hq=>?_)|refine nD_ (fun hq=>?_) (fun hq=>?_)|refine rb1 ?_|refine rb0 ?_|refine rbx ?_|refine rix ?_|(refine And.intro (by first|exact ⟨rfl,trivial⟩|fail) ?_)|refine aS ?_|fail)
   (conv=>whnf)
   refine endN _ rfl rfl fun q hq=>?_
   have hm:=qL (b:=b) hq
   by_cases h5:q=5
   ·subst h5
    show some (BX.m false [.str] (bz (T.str f) (T.bool true) _) none)=some (BX.m false [.str] _ none)
    rw [zg,hmr]
   show cond (Nat.beq q 5) _ (cond (Nat.beq q 14) _ (cond (Nat.beq q 3) _ (cond (Nat.beq q 5) _ (gy 10 100 b q))))=cond (Nat.beq q 3) _ (cond (Nat.beq q 5) _ (b q))
   rw [eL h5,eL (show q≠14 by omega),hm];rfl
 ·have hes:vj r (s8 r).length=[(3,.v [.mp 5]),(5,.m false [.str] (esS (once [] ((s8 r).flatMap gr))) none)]:=by unfold vj;rw [x9]
  have hll:((s8 r).flatMap gr).length≤(s8 r).length:=vn fun x _=>by unfold gr;split <;> simp
  have hol:=xZ (l:=(s8 r).flatMap gr) (acc:=[])
  have hnd:=wM (l:=(s8 r).flatMap gr) (acc:=[]) List.nodup_nil
  have hfin:x4 (once [] ((s8 r).flatMap gr))=reads r:=by
   unfold x4 reads
   refine yL Bo fun x=>?_
   rw [xW]
   simp only [List.not_mem_nil,false_or]
   rw [show (s8 r).flatMap gr=yk r by rw [zl];rfl]
  rw [hes]
  simp only [List.length_nil,Nat.zero_add] at hol
  generalize once [] ((s8 r).flatMap gr)=ks at *
  have hk1:=zW ks (ks.map fun _=>T.bool true)
  have hk2:=(yH ks (ks.map fun _=>T.bool true) (by simp) (by omega) hnd).rp
  rw [hfin] at hk2
  refine aG.bQ (s:={sl:=[(3,.ptr 3 0)],bx:=[(3,.v [.t (mpb ks (ks.map fun _=>T.bool true))])]}) ⟨⟨.same _,trivial⟩,⟨.v _ _ ⟨.conv _ _ [5] ?_ (by simp [Wk.keys]),trivial⟩,trivial⟩,trivial,rfl,fun _ _ _=>trivial,rfl⟩ ?_
  ·show some (T.mapd false [.str] ((esS ks).map (·.1)) ((esS ks).map (·.2)),[5])=_
   unfold esS
   rw [List.map_map,List.map_map];rfl
  refine F5 ?_
  repeat' ((conv=>whnf);first|exact trivial|refine rq _ (hk1) ?_|refine rq _ (hk2) ?_|refine nT_ ?_|refine aE1 ?_|refine aE0 ?_|refine aN1 ?_|refine aN0 ?_|refine aD1 ?_|refine aD0 ?_|refine nE_ (fun hq=>?_) (fun hq=>?_)|refine nN_ (fun hq=>?_) (fun hq=>?_)|refine nD_ (fun hq=>?_) (fun hq=>?_)|refine rb1 ?_|refine rb0 ?_|refine rbx ?_|refine rix ?_|refine aS ?_|fail)
  exact ⟨⟨rfl,trivial⟩,fun _ _=>trivial⟩
end Go.TY
end
section
namespace Go.TY
open Go Go.DL Go.MM Go.Proofs
attribute [local irreducible] aG gM WCM YC
def gw:RO→List ByteArray:=fun x=>if x.kind=2 then [x.field] else []
def vk (r:RO) (k:Nat):List (Nat×BX):=[(3,.v [.mp 5]),(5,.m false [.str] (esS (once [] (tl gw (sn r) k))) none)]
theorem Dv (r:RO):oW (fun n=>10≤n∧n<100) 100 (fun _ _=>True) (vk r) (fun _ cx _=>cx=(fun _ _=>True)∧False) where
 fh:=fun n h=>h.2
 nm:=fun k p hp=>by
  simp only [vk,List.mem_cons,List.not_mem_nil,or_false] at hp
  rcases hp with rfl|rfl <;> exact ⟨by dsimp only;omega,by dsimp only;omega⟩
 nms:=fun c cx o ho=>ho.2.elim
 cov:=fun k k' p hp=>by
  simp only [vk,List.mem_cons,List.not_mem_nil,or_false] at hp ⊢
  rcases hp with rfl|rfl
  ·exact ⟨_,Or.inl rfl,rfl⟩
  ·exact ⟨_,Or.inr rfl,rfl⟩
 covs:=fun c cx o ho=>ho.2.elim
 safe:=fun k p hp=>by
  simp only [vk,List.mem_cons,List.not_mem_nil,or_false] at hp
  rcases hp with rfl|rfl
  ·intro c hc
   rw [List.mem_singleton.1 hc]
   exact .mp 5 ⟨(5,_),List.mem_cons_of_mem _ (List.mem_singleton.2 rfl),rfl⟩
  ·exact trivial
 safes:=fun c cx o ho=>ho.2.elim
 cxd:=fun c cx o ho=>ho.2.elim
 cxo_:=rK
 nd:=fun k=>by show ([3,5]:List Nat).Nodup;decide
theorem BK (r:RO) (hr:r.wt<2^39):DCalls Tryz.prog 7 [.agg (sg r)] (.slice 1 ((writes r).map T.str)):=by
 rw [← xR]
 refine qC Tryz.func7 hb7 rfl (r:=[.slice 1 ((writes r).map T.str)]) (nlZ rfl) ?_
 have hlen:(sn r).length≤r.wt:=by rw [tZ,uw];exact r.vK
 have hwt: ∀o∈sn r,o.wt≤r.wt:=by rw [tZ];exact vT r
 have hpl:(s8 r).length≤r.wt:=wP r
 rw [show Tryz.f7.ntmps=18 from rfl,show Tryz.f7.results.toList=[.tmp 2] from rfl,k7]
 have ht:=zX r
 rw [s7] at ht
 refine aG.seq (FV ?_)
 repeat' ((conv=>whnf);first|exact trivial|refine nT_ ?_|refine aE1 ?_|refine aE0 ?_|refine aN1 ?_|refine aN0 ?_|refine aD1 ?_|refine aD0 ?_|refine nE_ (fun hq=>?_) (fun hq=>?_)|refine nN_ (fun hq=>?_) (fun hq=>?_)|refine nD_ (fun hq=>?_) (fun hq=>?_)|refine rb1 ?_|refine rb0 ?_|refine rbx ?_|refine rix ?_|(refine And.intro (by first|exact tz _|fail) ?_)|refine aS ?_|fail)
 refine aG.seq (FX ?_)
 repeat' ((conv=>whnf);first|exact trivial|refine nT_ ?_|refine aE1 ?_|refine aE0 ?_|refine aN1 ?_|refine aN0 ?_|refine aD1 ?_|refine aD0 ?_|refine nE_ (fun hq=>?_) (fun hq=>?_)|refine nN_ (fun hq=>?_) (fun hq=>?_)|refine nD_ (fun hq=>?_) (fun hq=>?_)|refine rb1 ?_|refine rb0 ?_|refine rbx ?_|refine rix ?_|refine aS ?_|fail)
 refine aG.seq (aG.seq (FZ ?_))
 repeat' ((conv=>whnf);first|exact trivial|refine rq _ (ht) ?_|refine nT_ ?_|refine aE1 ?_|refine aE0 ?_|refine aN1 ?_|refine aN0 ?_|refine aD1 ?_|refine aD0 ?_|refine nE_ (fun hq=>?_) (fun hq=>?_)|refine nN_ (fun hq=>?_) (fun hq=>?_)|refine nD_ (fun hq=>?_) (fun hq=>?_)|refine rb1 ?_|refine rb0 ?_|refine rbx ?_|refine rix ?_|(refine And.intro (by first|exact tz _|fail) ?_)|refine aS ?_|fail)
 refine aG.bQ (s:={sl:=[(3,.ptr 3 0),(7,.t (.clos 50 [.cptr (sP r) 0]))],bx:=[(3,.v [.mp 5]),(5,.m false [.str] [] none)]}) (by repeat' (first|exact trivial|exact LeV.same _|exact LeB.same _|exact rfl|exact fun _ _ _=>trivial|exact lI|exact LeV.nil _ _ _|exact lB|refine r9 ?_|refine rO ?_|refine And.intro ?_ ?_)) ?_
 refine aG.block (xM (N:=18) rfl r rfl 100 (fun n=>10≤n∧n<100) 100 (Nat.le_refl _) (by omega) (fun n h=>re fun p hp=>?_) (fun n h=>re fun p hp=>?_) (by exact rL) (outs:=vk r) (stop:=fun _ cx _=>cx=(fun _ _=>True)∧False) ?_ (fun l0 D fn tmps hN=>?_) ?_ (fun c cx o h=>h.2.elim))
 ·simp only [List.mem_cons,List.not_mem_nil,or_false] at hp
  rcases hp with rfl|rfl <;> (dsimp only;omega)
 ·simp only [List.mem_cons,List.not_mem_nil,or_false] at hp
  rcases hp with rfl|rfl <;> (dsimp only;omega)
 ·intro q hq
  simp only [vk,List.mem_cons,List.not_mem_nil,or_false] at hq
  rcases hq with rfl|rfl <;> rfl
 ·refine dF.top (d:=4) (n:=9) (lo:=10) (hi:=100) (stop:=fun _ _=>False) (Dv r) (fun n h1 h2=>⟨h1,h2⟩) hN (by decide) (fun hw=>F2 hw) rfl (by decide) (by decide) (fun x hx=>?_) (fun k cs b G C hk hcs=>?_)
  ·obtain ⟨t,_,rfl⟩:=List.mem_map.1 hx
   exact ⟨_,s7 t,tz t⟩
  rw [List.getElem?_map,Option.map_eq_some_iff] at hk
  obtain ⟨t,htk,hte⟩:=hk
  rw [s7] at hte
  obtain rfl:sP t=cs:=T.agg.inj hte
  have hfs:=xE (g:=gw) htk
  have hos:vk r k=[(3,.v [.mp 5]),(5,.m false [.str] (esS (once [] (tl gw (sn r) k))) none)]:=rfl
  rw [hos]
  generalize hks:once [] (tl gw (sn r) k)=ks
  have endN: ∀s:St,s.gh=G→s.cx=C→(∀ q, ¬(10≤q∧q<100)→s.bx q=aH b [(3,.v [.mp 5]),(5,.m false [.str] (esS (once [] (tl gw (sn r) (k+1)))) none)] q)→RB b G C 10 100 (vk r (k+1)) (fun _ _=>False) .normal s:=fun s h1 h2 h3=>⟨h1,h2,_,h3,rfl⟩
  have same:gw t=[]→once [] (tl gw (sn r) (k+1))=ks:=fun h=>by rw [hfs,h,List.append_nil,hks]
  have more: ∀s,gw t=[s]→once [] (tl gw (sn r) (k+1))=if s∈ks then ks else ks++[s]:=fun s h=>by rw [hfs,h,wZ,hks]
  generalize once [] (tl gw (sn r) (k+1))=ks' at *
  clear hte hks hos hfs
  refine F4 ?_
  obtain ⟨kd,p,f,n,args⟩:=t
  by_cases k2:kd=2
  ·have hmr:=more f (by unfold gw;exact if_pos k2)
   repeat' ((conv=>whnf);first|exact trivial|refine qf k2 ?_|refine nT_ ?_|refine aE1 ?_|refine aE0 ?_|refine aN1 ?_|refine aN0 ?_|refine aD1 ?_|refine aD0 ?_|refine nE_ (fun hq=>?_) (fun hq=>?_)|refine nN_ (fun hq=>?_) (fun hq=>?_)|refine nD_ (fun hq=>?_) (fun hq=>?_)|refine rb1 ?_|refine rb0 ?_|refine rbx ?_|refine rix ?_|(refine And.intro (by first|exact ⟨rfl,trivial⟩|fail) ?_)|refine aS ?_|fail)
   (conv=>whnf)
   refine endN _ rfl rfl fun q hq=>?_
   have hm:=qL (b:=b) hq
   by_cases h5:q=5
   ·subst h5
    show some (BX.m false [.str] (bz (T.str f) (T.bool true) _) none)=some (BX.m false [.str] _ none)
    rw [zg,hmr]
   show cond (Nat.beq q 5) _ (cond (Nat.beq q 14) _ (cond (Nat.beq q 3) _ (cond (Nat.beq q 5) _ (gy 10 100 b q))))=cond (Nat.beq q 3) _ (cond (Nat.beq q 5) _ (b q))
   rw [eL h5,eL (show q≠14 by omega),hm];rfl
  ·have hg:=same (by unfold gw;exact if_neg k2)
   subst hg
   repeat' ((conv=>whnf);first|exact trivial|refine qe k2 ?_|refine nT_ ?_|refine aE1 ?_|refine aE0 ?_|refine aN1 ?_|refine aN0 ?_|refine aD1 ?_|refine aD0 ?_|refine nE_ (fun hq=>?_) (fun hq=>?_)|refine nN_ (fun hq=>?_) (fun hq=>?_)|refine nD_ (fun hq=>?_) (fun hq=>?_)|refine rb1 ?_|refine rb0 ?_|refine rbx ?_|refine rix ?_|refine aS ?_|fail)
   (conv=>whnf)
   refine endN _ rfl rfl fun q hq=>?_
   have hm:=qL (b:=b) hq
   show cond (Nat.beq q 14) _ (cond (Nat.beq q 3) _ (cond (Nat.beq q 5) _ (gy 10 100 b q)))=cond (Nat.beq q 3) _ (cond (Nat.beq q 5) _ (b q))
   rw [eL (show q≠14 by omega),hm];rfl
 ·have hes:vk r (sn r).length=[(3,.v [.mp 5]),(5,.m false [.str] (esS (once [] ((sn r).flatMap gw))) none)]:=by unfold vk;rw [x9]
  have hll:((sn r).flatMap gw).length≤(sn r).length:=vn fun x _=>by unfold gw;split <;> simp
  have hol:=xZ (l:=(sn r).flatMap gw) (acc:=[])
  have hnd:=wM (l:=(sn r).flatMap gw) (acc:=[]) List.nodup_nil
  have hfin:x4 (once [] ((sn r).flatMap gw))=writes r:=by
   unfold x4 writes
   refine yL Bo fun x=>?_
   rw [xW]
   simp only [List.not_mem_nil,false_or]
   rw [show (sn r).flatMap gw=tx r by rw [tZ];rfl]
  rw [hes]
  simp only [List.length_nil,Nat.zero_add] at hol
  generalize once [] ((sn r).flatMap gw)=ks at *
  have hk1:=zW ks (ks.map fun _=>T.bool true)
  have hk2:=(yH ks (ks.map fun _=>T.bool true) (by simp) (by omega) hnd).rp
  rw [hfin] at hk2
  refine aG.bQ (s:={sl:=[(3,.ptr 3 0)],bx:=[(3,.v [.t (mpb ks (ks.map fun _=>T.bool true))])]}) ⟨⟨.same _,trivial⟩,⟨.v _ _ ⟨.conv _ _ [5] ?_ (by simp [Wk.keys]),trivial⟩,trivial⟩,trivial,rfl,fun _ _ _=>trivial,rfl⟩ ?_
  ·show some (T.mapd false [.str] ((esS ks).map (·.1)) ((esS ks).map (·.2)),[5])=_
   unfold esS
   rw [List.map_map,List.map_map];rfl
  refine F6 ?_
  repeat' ((conv=>whnf);first|exact trivial|refine rq _ (hk1) ?_|refine rq _ (hk2) ?_|refine nT_ ?_|refine aE1 ?_|refine aE0 ?_|refine aN1 ?_|refine aN0 ?_|refine aD1 ?_|refine aD0 ?_|refine nE_ (fun hq=>?_) (fun hq=>?_)|refine nN_ (fun hq=>?_) (fun hq=>?_)|refine nD_ (fun hq=>?_) (fun hq=>?_)|refine rb1 ?_|refine rb0 ?_|refine rbx ?_|refine rix ?_|refine aS ?_|fail)
  exact ⟨⟨rfl,trivial⟩,fun _ _=>trivial⟩
end Go.TY
end
