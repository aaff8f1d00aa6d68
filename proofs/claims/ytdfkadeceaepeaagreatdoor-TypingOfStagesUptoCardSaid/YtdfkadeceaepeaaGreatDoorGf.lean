/- Joined by program: parts of a data level over the model, of the program's functions over it, and of the statement's proof. -/
import Derived.Test.YtdfkadeceaepeaaGreatDoorGe
import Derived.Test.YtdfkadeceaepeaaGreatDoorProg
import Derived.Test.YtdfkadeceaepeaaGreatDoorGc
import Derived.KernelRfl
set_option maxRecDepth 100000
set_option maxHeartbeats 8000000
section
namespace Go.TY
open Go Go.DL Go.MM Go.Proofs
theorem DCalls.to {P:Program} {f:FuncId} {xs:List T} {r r':T} (h:DCalls P f xs r) (hl:Les r r'):DCalls P f xs r':=h.res fun S w v k=>hl S w v k
theorem Cf (k:Int) (f:ByteArray) (n m:Int):Les (.agg [I k,.str f,I n,I m,.nil]) (.agg (sB (.mk k f n m []))):=
 Les.agg (.cons (Les.refl _) rfl (.cons (Les.refl _) rfl (.cons (Les.refl _) rfl (.cons (Les.refl _) rfl (.cons (Les.nil 5) rfl .nil)))))
theorem I6 (k:Int) (f:ByteArray) (n:Int):Les (.agg [I k,I 0,.str e0,I 0,I 0,.nil,.str f,I n,.nil]) (.agg (sA (.mk k wo f n []))):=
 Les.agg (.cons (Les.refl _) rfl (.cons (Les.refl _) rfl (.cons (Les.refl _) rfl (.cons (Les.refl _) rfl (.cons (Les.refl _) rfl (.cons (Les.nil 5) rfl (.cons (Les.refl _) rfl (.cons (Les.refl _) rfl (.cons (Les.nil 9) rfl .nil)))))))))
theorem I5 {p:RP} (f:ByteArray) (n:Int):Les (.agg (I 1::(sB p++[.str f,I n,.nil]))) (.agg (sA (.mk 1 p f n []))):=by
 obtain ⟨k,pf,pn,pm,pa⟩:=p
 exact Les.agg (.cons (Les.refl _) rfl (.cons (Les.refl _) rfl (.cons (Les.refl _) rfl (.cons (Les.refl _) rfl (.cons (Les.refl _) rfl (.cons (Les.refl _) rfl (.cons (Les.refl _) rfl (.cons (Les.refl _) rfl (.cons (Les.nil 9) rfl .nil)))))))))
theorem Cg (k:Int) (xs:List RO):Les (.agg [I k,I 0,.str e0,I 0,I 0,.nil,.str e0,I 0,.slice 9 (xs.map s8)]) (.agg (sA (.mk k wo e0 0 xs))):=
 Les.agg (.cons (Les.refl _) rfl (.cons (Les.refl _) rfl (.cons (Les.refl _) rfl (.cons (Les.refl _) rfl (.cons (Les.refl _) rfl (.cons (Les.nil 5) rfl (.cons (Les.refl _) rfl (.cons (Les.refl _) rfl (.cons (Les.refl _) rfl .nil)))))))))
theorem Cc (f:ByteArray) (n:Int):DCalls Tryz.prog 62 [.str f,I n] (.agg (sB (.mk 3 f n 0 []))):=by
 refine DCalls.to (r:=.agg [I 3,.str f,I n,I 0,.nil]) ?_ (Cf _ _ _ _)
 refine qO (rs:=[.cell 4 25]) mixed Tryz.func62 l62 rfl rfl rfl (r:=[.agg [I 3,.str f,I n,I 0,.nil]]) (nlZ rfl) ?_
 repeat' ((conv=>whnf);first|exact trivial|refine aS ?_|fail)
 all_goals exact ⟨congrArg some rfl,trivial⟩
theorem yZ (f:ByteArray) (n:Int):DCalls Tryz.prog 63 [.str f,I n] (.agg (sA (.mk 2 wo f n []))):=by
 refine DCalls.to (r:=.agg [I 2,I 0,.str e0,I 0,I 0,.nil,.str f,I n,.nil]) ?_ (I6 _ _ _)
 refine qO (rs:=[.cell 4 28]) mixed Tryz.func63 l63 rfl rfl rfl (r:=[.agg [I 2,I 0,.str e0,I 0,I 0,.nil,.str f,I n,.nil]]) (nlZ rfl) ?_
 repeat' ((conv=>whnf);first|exact trivial|refine aS ?_|fail)
 all_goals exact ⟨congrArg some rfl,trivial⟩
theorem yK (p:RP):DCalls Tryz.prog 61 [.agg (sB p)] (.agg (sA (.mk 1 p e0 0 []))):=by
 refine DCalls.to (r:=.agg (I 1::(sB p++[.str e0,I 0,.nil]))) ?_ (I5 _ _)
 obtain ⟨k,pf,pn,pm,pa⟩:=p
 refine qO (rs:=[.cell 2 28]) mixed Tryz.func61 l61 rfl rfl rfl (r:=[.agg (I 1::(sB (.mk k pf pn pm pa)++[.str e0,I 0,.nil]))]) (nlZ rfl) ?_
 repeat' ((conv=>whnf);first|exact trivial|refine aS ?_|fail)
 all_goals exact ⟨congrArg some rfl,trivial⟩
theorem Cd (x y:RO):DCalls Tryz.prog 32 [.agg (sA x),.agg (sA y)] (.agg (sA (xH 4 x y))):=by
 refine DCalls.to (r:=.agg [I 4,I 0,.str e0,I 0,I 0,.nil,.str e0,I 0,.slice 9 ([x,y].map s8)]) ?_ (Cg _ _)
 have e:([x,y].map s8)=[.agg (sA x),.agg (sA y)]:=by simp [sN]
 rw [e]
 have h1:=sF x
 have h2:=sF y
 generalize sA x=a at *
 generalize sA y=b at *
 refine qO (rs:=[.cell 4 28]) mixed Tryz.func32 l32 rfl rfl rfl (r:=[.agg [I 4,I 0,.str e0,I 0,I 0,.nil,.str e0,I 0,.slice 9 [.agg a,.agg b]]]) (nlZ rfl) ?_
 repeat' ((conv=>whnf);first|exact trivial|(refine And.intro (by first|exact h1|exact h2|exact ⟨⟨trivial,h1⟩,h2⟩|fail) ?_)|refine aS ?_|fail)
 all_goals exact ⟨congrArg some rfl,trivial⟩
theorem Gb (x y:RO):DCalls Tryz.prog 33 [.agg (sA x),.agg (sA y)] (.agg (sA (xH 3 x y))):=by
 refine DCalls.to (r:=.agg [I 3,I 0,.str e0,I 0,I 0,.nil,.str e0,I 0,.slice 9 ([x,y].map s8)]) ?_ (Cg _ _)
 have e:([x,y].map s8)=[.agg (sA x),.agg (sA y)]:=by simp [sN]
 rw [e]
 have h1:=sF x
 have h2:=sF y
 generalize sA x=a at *
 generalize sA y=b at *
 refine qO (rs:=[.cell 4 28]) mixed Tryz.func33 l33 rfl rfl rfl (r:=[.agg [I 3,I 0,.str e0,I 0,I 0,.nil,.str e0,I 0,.slice 9 [.agg a,.agg b]]]) (nlZ rfl) ?_
 repeat' ((conv=>whnf);first|exact trivial|(refine And.intro (by first|exact h1|exact h2|exact ⟨⟨trivial,h1⟩,h2⟩|fail) ?_)|refine aS ?_|fail)
 all_goals exact ⟨congrArg some rfl,trivial⟩
def uT:ByteArray:=⟨#[100,115,116]⟩
def vA:ByteArray:=⟨#[115,114,99]⟩
def we:ByteArray:=⟨#[107,105,110,100]⟩
def L3:List Fd:=[⟨uT,16,8⟩,⟨vA,24,8⟩,⟨we,33,3⟩]
theorem EE:DCalls Tryz.prog 60 [] (fds L3):=by
 refine qO (rs:=[.tmp 0]) mixed Tryz.func60 l60 rfl rfl rfl (r:=[fds L3]) (nlZ rfl) ?_
 repeat' ((conv=>whnf);first|exact trivial|refine aS ?_|fail)
theorem Av:LOk L3:=⟨by decide,fun f hf=>by
 simp only [L3,List.mem_cons,List.not_mem_nil,or_false] at hf
 rcases hf with rfl|rfl|rfl <;> exact ⟨by decide,by decide,by decide⟩⟩
def xU (l:List RF) (gs:List RG):Bool:=wQ gs&&(wz l==0)
theorem Ga (l:List RF) (hl:l.length<2^60) (hn: ∀f∈l,f.name.size<2^62) (gs:List RG) (hgl:gs.length<2^60) (hg: ∀g∈gs,g.pol.wt<2^60):DCalls Tryz.prog 36 [vD l,.slice 15 (gs.map sE)] (.bool (xU l gs)):=by
 refine qO (rs:=[.tmp 4]) mixed Tryz.func36 l36 rfl rfl rfl (r:=[.bool _]) (nlZ rfl) ?_
 have h1:=xT gs hgl hg
 have h2:=t47 l hl hn
 unfold xU
 generalize wQ gs=b at *
 generalize wz l=c at *
 by_cases hc:c=0
 ·rw [show (c==0)=true by simp [hc]]
  cases b <;> repeat' ((conv=>whnf);first|exact trivial|refine rE _ (h1) ?_|refine rE _ (h2) ?_|refine qx hc ?_|refine rb1 ?_|refine rb0 ?_|refine aS ?_|fail)
 ·rw [show (c==0)=false by simp [hc]]
  cases b <;> repeat' ((conv=>whnf);first|exact trivial|refine rE _ (h1) ?_|refine rE _ (h2) ?_|refine qw hc ?_|refine rb0 ?_|refine aS ?_|fail)
end Go.TY
end
section
namespace Go.TY
open Go Go.DL Go.MM Go.Proofs
def Ic:ByteArray:=⟨#[116,111,112]⟩
def cN:ByteArray:=⟨#[99]⟩
def tN:ByteArray:=⟨#[116]⟩
abbrev idF:RO:=.mk 1 (.mk 1 e0 0 0 []) e0 0 []
abbrev BZ:RO:=.mk 1 (.mk 2 e0 0 0 []) e0 0 []
abbrev vP:RO:=.mk 1 (.mk 9 e0 3 7 []) e0 0 []
abbrev uj:RG:=⟨idF,⟨2,cN,[vA],e0,0,0⟩⟩
abbrev uI:RG:=⟨idF,⟨3,cN,[uT],e0,5,0⟩⟩
abbrev Ao:RG:=⟨idF,⟨3,cN,[we],e0,5,0⟩⟩
abbrev yX:RG:=⟨idF,⟨1,cN,[vA],e0,0,0⟩⟩
abbrev Ap:RG:=⟨idF,⟨6,cN,[vA],e0,1,1⟩⟩
abbrev IS:RG:=⟨vP,⟨0,e0,[],e0,0,0⟩⟩
abbrev eqF (f:ByteArray) (n:Int):RP:=.mk 3 f n 0 []
abbrev fiF (p:RP):RO:=.mk 1 p e0 0 []
abbrev seF (f:ByteArray) (n:Int):RO:=.mk 2 wo f n []
abbrev xF:RO:=xH 3 (xH 4 (fiF (eqF uT 5)) (seF tg 2)) (xH 4 (seF tg 1) (.mk 5 wo e0 0 [seF vA 0]))
abbrev VL:List RV:=[⟨cN,2,[8],0,0⟩]
theorem sm1 (g:RG) (h:g=uj∨g=uI∨g=Ao∨g=yX∨g=Ap):SmG (2^39) g:=by
 rcases h with rfl|rfl|rfl|rfl|rfl
 all_goals refine ⟨⟨by decide,by decide,fun k hk=>?_,by decide⟩,by decide,fun _=>⟨⟨by decide,trivial⟩,by decide,trivial⟩⟩
 all_goals (rw [List.mem_singleton.1 hk];decide)
theorem CX (p:RP) (x:Int) (hr:p.nodes<2^40) (hn:vT p) (h:z7 L3 p=x):DCalls Tryz.prog 15 [fds L3,.agg (sB p)] (I x):=h▸H5 L3 Av p hr hn
theorem HW (k:Int) (f:ByteArray) (n m x:Int) (hn:f.size<2^62) (h:z7 L3 (.mk k f n m [])=x):DCalls Tryz.prog 15 [fds L3,.agg [I k,.str f,I n,I m,.nil]] (I x):=
 (CX (.mk k f n m []) x (by simp [RP.nodes,sM]) ⟨hn,trivial⟩ h).lesAll ⟨Les.refl _,Cf k f n m,trivial⟩
theorem xO (k:Int) (f:ByteArray) (n m:Int):DCalls Tryz.prog 61 [.agg [I k,.str f,I n,I m,.nil]] (.agg (sA (.mk 1 (.mk k f n m []) e0 0 []))):=
 (yK (.mk k f n m [])).lesAll ⟨Cf k f n m,trivial⟩
theorem GW (x:RO) (k:Int) (ys:List RO):DCalls Tryz.prog 32 [.agg (sA x),.agg [I k,I 0,.str e0,I 0,I 0,.nil,.str e0,I 0,.slice 9 (ys.map s8)]] (.agg (sA (xH 4 x (.mk k wo e0 0 ys)))):=
 (Cd x (.mk k wo e0 0 ys)).lesAll ⟨Les.refl _,Cg k ys,trivial⟩
theorem HU (r:RO) (x:Int) (hr:r.wt<2^40) (hn:vS r) (h:ue L3 r=x):DCalls Tryz.prog 17 [fds L3,.agg (sA r)] (I x):=h▸A5 L3 Av r hr hn
theorem FZ (s:RS) (x:Int) (hs:SmS (2^59) s) (h:tK L3 s=x):DCalls Tryz.prog 19 [fds L3,.agg (sZ s)] (I x):=h▸Em L3 Av s hs
theorem CY (gs:List RG) (x:Int) (hl:gs.length<2^40) (hs: ∀g∈gs,SmG (2^39) g) (h:tV L3 gs=x):DCalls Tryz.prog 38 [fds L3,.slice 15 (gs.map sE)] (I x):=h▸vY L3 Av gs hl hs
theorem xq {α:Type} {a b:α} {p:α→Prop} (ha:p a) (hb:p b): ∀x∈[a,b],p x:=fun x hx=>by
 simp only [List.mem_cons,List.not_mem_nil,or_false] at hx
 rcases hx with rfl|rfl
 ·exact ha
 ·exact hb
theorem Kr:DCalls Tryz.prog 39 [fds L3,.slice 15 ([uj,uI].map sE)] (.slice 5 (VL.map sI)):=by
 have h:(tI L3 [uj,uI]).isNone=false:=by decide+kernel
 have e:tB L3 [uj,uI]=VL:=by decide+kernel
 cases hv:tI L3 [uj,uI] with
 |none=>rw [hv] at h;cases h
 |some st=>
  have:=vO L3 Av [uj,uI] (by decide) (xq ⟨(sm1 uj (by simp)).st.mono (by decide),by decide,by decide⟩ ⟨(sm1 uI (by simp)).st.mono (by decide),by decide,by decide⟩) st hv
  rwa [e] at this
theorem HT (tick:Int) (r q:RO) (hr:r.wt<2^39) (h:vr tick r=q):DCalls Tryz.prog 49 [.agg (sA r),I tick] (.agg (sA q)):=h▸t39 tick r hr
theorem FY (a b:RO) (x:Bool) (hr:a.wt<2^60) (h:vV a b=x):DCalls Tryz.prog 48 [.agg (sA a),.agg (sA b)] (.bool x):=h▸Az _ a b (Nat.le_refl _) hr
theorem HX (r:RO) (x:List ByteArray) (hr:r.wt<2^39) (h:reads r=x):DCalls Tryz.prog 23 [.agg (sA r)] (.slice 1 (x.map T.str)):=h▸Gy r hr
theorem Gs (r:RO) (x:List ByteArray) (hr:r.wt<2^39) (h:writes r=x):DCalls Tryz.prog 25 [.agg (sA r)] (.slice 1 (x.map T.str)):=h▸ES r hr
theorem HV (r:RO) (x:List Int) (hr:r.wt<2^39) (h:y5 r=x):DCalls Tryz.prog 28 [.agg (sA r)] (.slice 1 (x.map I)):=h▸Gx r hr
theorem Kq (r:RO) (x:Nat) (hr:tD r=true) (h:tY r=x):DCalls Tryz.prog 30 [.agg (sA r)] (I x):=h▸H8 _ r (Nat.le_refl _) hr
theorem HS (gs:List RG) (x:List Int) (hl:gs.length<2^39) (hg: ∀g∈gs,g.pol.wt<2^39) (hb:(bounds gs).length<2^40) (h:wW gs=x):DCalls Tryz.prog 57 [.slice 15 (gs.map sE)] (.slice 1 (x.map I)):=h▸A3 gs hl hg hb
theorem Ee (a:List ByteArray) (h:a.length<2^60):DCalls Tryz.prog 22 [.slice 1 (a.map .str),.slice 1 (a.map .str)] (.bool true):=by
 have:=Bs a a (Or.inl h)
 rwa [wI.2 rfl] at this
theorem FX (a:List Int) (h:a.length<2^60):DCalls Tryz.prog 27 [.slice 1 (a.map I),.slice 1 (a.map I)] (.bool true):=by
 have:=za a a (Or.inl h)
 rwa [show (a==a)=true by simp] at this
theorem MD:DCalls Tryz.prog 45 [.slice 5 (VL.map sI),.slice 5 (VL.map sI)] (.bool true):=by
 have:=zb VL VL (Or.inl (by decide)) (Or.inl fun v hv=>by rw [List.mem_singleton.1 hv];decide)
 rwa [wk.2 rfl] at this
theorem Lz {P:Program} {i:DI} {is:List DI} {st:St} {K:St→Prop} (v:V) (h:wpI P i st (fun s=>s=st.set i.dst v)) (hk:aA P is (st.set i.dst v) K):aA P (i::is) st K:=cY (fun s e=>by rw [e];exact hk) h
theorem I4 {P:Program} {is:List DI} {B:PT} {st:St} {Q:aB→St→Prop} (h:aA P is st fun st'=>B st' Q):rl (rj P is []) B st Q:=h
theorem EX:DCalls Tryz.prog 10 [] (.bool true):=by
 refine qO (rs:=[.tmp 0]) mixed Tryz.func10 l10 rfl rfl rfl (r:=[.bool true]) (nlZ rfl) ?_
 have k1:=EE
 have k2:=Cc uT 300
 have k3:=Cc Ic 1
 have k4:=xO 1 e0 0 0
 have k5:=CX (eqF uT 300) 1 (by decide) ⟨by decide,trivial⟩ (by decide+kernel)
 have k6:=CX (eqF Ic 1) 4 (by decide) ⟨by decide,trivial⟩ (by decide+kernel)
 have k7:=HW 4 we 1 4 1 (by decide) (by decide+kernel)
 repeat' ((conv=>whnf);first|refine rE _ (k1) ?_|refine rE _ (k4) ?_|refine aS ?_|fail)
 refine rA (β:=Unit) (fun _=>{sl:=[(1,.t (fds L3)),(2,.ptr 2 0),(3,.t (.bool true))],bx:=[(2,.d 9 (sA idF))]}) (fun _=>True) ?_ ?_
 ·repeat' ((conv=>whnf);first|refine rE _ (k2) ?_|refine rE _ (k3) ?_|refine rE _ (k5) ?_|refine rE _ (k6) ?_|refine rE _ (k7) ?_|(exact ⟨(),trivial,by (repeat' (first|exact trivial|exact LeV.same _|exact LeB.same _|exact rfl|exact fun _ _ _=>trivial|refine And.intro ?_ ?_));done⟩)|refine aE1 ?_|refine aS ?_|fail)
 rintro _ _
 clear k1 k2 k3 k4 k5 k6 k7
 have k8:=Cc uT 5
 have k9:=yK (eqF uT 5)
 have k10:=yZ we 7
 have k11:=yZ we 8
 have k12:=Cd (fiF (eqF uT 5)) (seF we 7)
 have k13:=HU (xH 4 (fiF (eqF uT 5)) (seF we 7)) 0 (by decide) ⟨⟨by decide,trivial⟩,by decide,⟨⟨by decide,trivial⟩,by decide,trivial⟩,⟨⟨by decide,trivial⟩,by decide,trivial⟩,trivial⟩ (by decide+kernel)
 have k14:=HU (seF we 8) 1 (by decide) ⟨⟨by decide,trivial⟩,by decide,trivial⟩ (by decide+kernel)
 skip
 refine rA (β:=Unit) (fun _=>{sl:=[(1,.t (fds L3)),(2,.ptr 2 0),(3,.t (.bool true)),(4,.t (.bool true))],bx:=[(2,.d 9 (sA idF))]}) (fun _=>True) ?_ ?_
 ·repeat' ((conv=>whnf);first|refine rE _ (k8) ?_|refine rE _ (k9) ?_|refine rE _ (k10) ?_|refine rE _ (k11) ?_|refine rE _ (k12) ?_|refine rE _ (k13) ?_|refine rE _ (k14) ?_|(exact ⟨(),trivial,by (repeat' (first|exact trivial|exact LeV.same _|exact LeB.same _|exact rfl|exact fun _ _ _=>trivial|refine And.intro ?_ ?_));done⟩)|refine aE1 ?_|refine aS ?_|fail)
 rintro _ _
 clear k8 k9 k10 k11 k12 k13 k14
 have k15:=FZ ⟨1,cN,[vA,vA],e0,0,0⟩ 1 ⟨by decide,by decide,xq (p:=fun k:ByteArray=>k.size<2^59) (by decide) (by decide),by decide⟩ (by decide+kernel)
 have k16:=FZ ⟨4,tN,[vA],we,1,9⟩ 1 ⟨by decide,by decide,fun k hk=>by rw [List.mem_singleton.1 hk];decide,by decide⟩ (by decide+kernel)
 skip
 refine rA (β:=Unit) (fun _=>{sl:=[(1,.t (fds L3)),(2,.ptr 2 0),(3,.t (.bool true)),(4,.t (.bool true)),(5,.t (.bool true))],bx:=[(2,.d 9 (sA idF))]}) (fun _=>True) ?_ ?_
 ·repeat' ((conv=>whnf);first|refine rE _ (k15) ?_|refine rE _ (k16) ?_|(exact ⟨(),trivial,by (repeat' (first|exact trivial|exact LeV.same _|exact LeB.same _|exact rfl|exact fun _ _ _=>trivial|refine And.intro ?_ ?_));done⟩)|refine aE1 ?_|refine aS ?_|fail)
 rintro _ _
 clear k15 k16
 skip
 refine rA (β:=Unit) (fun _=>{sl:=[(1,.t (fds L3)),(2,.ptr 2 0),(3,.t (.bool true)),(4,.t (.bool true)),(5,.t (.bool true)),(6,.ptr 6 0)],bx:=[(2,.d 9 (sA idF)),(6,.d 15 (sD uj))]}) (fun _=>True) ?_ ?_
 ·repeat' ((conv=>whnf);first|(exact ⟨(),trivial,by (repeat' (first|exact trivial|exact LeV.same _|exact LeB.same _|exact rfl|exact fun _ _ _=>trivial|refine And.intro ?_ ?_));done⟩)|refine aS ?_|fail)
 rintro _ _
 skip
 refine rA (β:=Unit) (fun _=>{sl:=[(1,.t (fds L3)),(2,.ptr 2 0),(3,.t (.bool true)),(4,.t (.bool true)),(5,.t (.bool true)),(6,.ptr 6 0),(7,.ptr 7 0)],bx:=[(2,.d 9 (sA idF)),(6,.d 15 (sD uj)),(7,.d 15 (sD uI))]}) (fun _=>True) ?_ ?_
 ·repeat' ((conv=>whnf);first|(exact ⟨(),trivial,by (repeat' (first|exact trivial|exact LeV.same _|exact LeB.same _|exact rfl|exact fun _ _ _=>trivial|refine And.intro ?_ ?_));done⟩)|refine aS ?_|fail)
 rintro _ _
 skip
 refine rA (β:=Unit) (fun _=>{sl:=[(1,.t (fds L3)),(2,.ptr 2 0),(3,.t (.bool true)),(4,.t (.bool true)),(5,.t (.bool true)),(6,.ptr 6 0),(7,.ptr 7 0),(8,.ptr 8 0)],bx:=[(2,.d 9 (sA idF)),(6,.d 15 (sD uj)),(7,.d 15 (sD uI)),(8,.d 15 (sD Ao))]}) (fun _=>True) ?_ ?_
 ·repeat' ((conv=>whnf);first|(exact ⟨(),trivial,by (repeat' (first|exact trivial|exact LeV.same _|exact LeB.same _|exact rfl|exact fun _ _ _=>trivial|refine And.intro ?_ ?_));done⟩)|refine aS ?_|fail)
 rintro _ _
 skip
 refine rA (β:=Unit) (fun _=>{sl:=[(1,.t (fds L3)),(2,.ptr 2 0),(3,.t (.bool true)),(4,.t (.bool true)),(5,.t (.bool true)),(6,.ptr 6 0),(7,.ptr 7 0),(8,.ptr 8 0),(9,.ptr 9 0)],bx:=[(2,.d 9 (sA idF)),(6,.d 15 (sD uj)),(7,.d 15 (sD uI)),(8,.d 15 (sD Ao)),(9,.d 15 (sD yX))]}) (fun _=>True) ?_ ?_
 ·repeat' ((conv=>whnf);first|(exact ⟨(),trivial,by (repeat' (first|exact trivial|exact LeV.same _|exact LeB.same _|exact rfl|exact fun _ _ _=>trivial|refine And.intro ?_ ?_));done⟩)|refine aS ?_|fail)
 rintro _ _
 skip
 refine rA (β:=Unit) (fun _=>{sl:=[(1,.t (fds L3)),(2,.ptr 2 0),(3,.t (.bool true)),(4,.t (.bool true)),(5,.t (.bool true)),(6,.ptr 6 0),(7,.ptr 7 0),(8,.ptr 8 0),(9,.ptr 9 0),(10,.ptr 10 0)],bx:=[(2,.d 9 (sA idF)),(6,.d 15 (sD uj)),(7,.d 15 (sD uI)),(8,.d 15 (sD Ao)),(9,.d 15 (sD yX)),(10,.d 15 (sD Ap))]}) (fun _=>True) ?_ ?_
 ·repeat' ((conv=>whnf);first|(exact ⟨(),trivial,by (repeat' (first|exact trivial|exact LeV.same _|exact LeB.same _|exact rfl|exact fun _ _ _=>trivial|refine And.intro ?_ ?_));done⟩)|refine aS ?_|fail)
 rintro _ _
 have k17:=CY [uj,uI] 0 (by decide) (xq (sm1 _ (by simp)) (sm1 _ (by simp))) (by decide+kernel)
 have k18:=CY [uj,Ao] 11 (by decide) (xq (sm1 _ (by simp)) (sm1 _ (by simp))) (by decide+kernel)
 have k19:=CY [yX,Ap] 11 (by decide) (xq (sm1 _ (by simp)) (sm1 _ (by simp))) (by decide+kernel)
 skip
 refine rA (β:=Unit) (fun _=>{sl:=[(1,.t (fds L3)),(2,.ptr 2 0),(3,.t (.bool true)),(4,.t (.bool true)),(5,.t (.bool true)),(6,.ptr 6 0),(7,.ptr 7 0),(11,.t (.bool true))],bx:=[(2,.d 9 (sA idF)),(6,.d 15 (sD uj)),(7,.d 15 (sD uI))]}) (fun _=>True) ?_ ?_
 ·repeat' ((conv=>whnf);first|refine rE _ (k17) ?_|refine rE _ (k18) ?_|refine rE _ (k19) ?_|(exact ⟨(),trivial,by (repeat' (first|exact trivial|exact LeV.same _|exact LeB.same _|exact rfl|exact fun _ _ _=>trivial|refine And.intro ?_ ?_));done⟩)|refine aE1 ?_|refine aS ?_|fail)
 rintro _ _
 clear k17 k18 k19
 have k20:=Kr
 skip
 refine rA (β:=Unit) (fun _=>{sl:=[(1,.t (fds L3)),(2,.ptr 2 0),(3,.t (.bool true)),(4,.t (.bool true)),(5,.t (.bool true)),(11,.t (.bool true)),(12,.t (.slice 5 (VL.map sI)))],bx:=[(2,.d 9 (sA idF))]}) (fun _=>True) ?_ ?_
 ·repeat' ((conv=>whnf);first|refine rE _ (k20) ?_|(exact ⟨(),trivial,by (repeat' (first|exact trivial|exact LeV.same _|exact LeB.same _|exact rfl|exact fun _ _ _=>trivial|refine And.intro ?_ ?_));done⟩)|refine aS ?_|fail)
 rintro _ _
 clear k20
 have k21:=xO 9 e0 3 7
 skip
 refine rA (β:=Unit) (fun _=>{sl:=[(1,.t (fds L3)),(2,.ptr 2 0),(3,.t (.bool true)),(4,.t (.bool true)),(5,.t (.bool true)),(11,.t (.bool true)),(12,.t (.slice 5 (VL.map sI))),(13,.ptr 13 0)],bx:=[(2,.d 9 (sA idF)),(13,.d 9 (sA vP))]}) (fun _=>True) ?_ ?_
 ·repeat' ((conv=>whnf);first|refine rE _ (k21) ?_|(exact ⟨(),trivial,by (repeat' (first|exact trivial|exact LeV.same _|exact LeB.same _|exact rfl|exact fun _ _ _=>trivial|refine And.intro ?_ ?_));done⟩)|refine aS ?_|fail)
 rintro _ _
 clear k21
 have k22:=HT 3 vP idF (by decide) rfl
 have k23:=HT 7 vP BZ (by decide) rfl
 have k24:=xO 2 e0 0 0
 have k25:=FY idF idF true (by decide) (by decide+kernel)
 have k26:=FY BZ BZ true (by decide) (by decide+kernel)
 skip
 refine rA (β:=Unit) (fun _=>{sl:=[(1,.t (fds L3)),(3,.t (.bool true)),(4,.t (.bool true)),(5,.t (.bool true)),(11,.t (.bool true)),(12,.t (.slice 5 (VL.map sI))),(13,.ptr 13 0),(14,.t (.bool true))],bx:=[(13,.d 9 (sA vP))]}) (fun _=>True) ?_ ?_
 ·repeat' ((conv=>whnf);first|refine rE _ (k22) ?_|refine rE _ (k23) ?_|refine rE _ (k24) ?_|refine rE _ (k25) ?_|refine rE _ (k26) ?_|(exact ⟨(),trivial,by (repeat' (first|exact trivial|exact LeV.same _|exact LeB.same _|exact rfl|exact fun _ _ _=>trivial|refine And.intro ?_ ?_));done⟩)|refine aS ?_|fail)
 rintro _ _
 clear k22 k23 k24 k25 k26
 have k27:=Cc uT 5
 have k28:=yK (eqF uT 5)
 have k29:=yZ tg 2
 have k30:=yZ tg 1
 have k31:=yZ vA 0
 have k32:=Cd (fiF (eqF uT 5)) (seF tg 2)
 have k33:=GW (seF tg 1) 5 [seF vA 0]
 have k34:=Gb (xH 4 (fiF (eqF uT 5)) (seF tg 2)) (xH 4 (seF tg 1) (.mk 5 wo e0 0 [seF vA 0]))
 skip
 refine rA (β:=Unit) (fun _=>{sl:=[(1,.t (fds L3)),(3,.t (.bool true)),(4,.t (.bool true)),(5,.t (.bool true)),(11,.t (.bool true)),(12,.t (.slice 5 (VL.map sI))),(13,.ptr 13 0),(14,.t (.bool true)),(15,.ptr 15 0)],bx:=[(13,.d 9 (sA vP)),(15,.d 9 (sA xF))]}) (fun _=>True) ?_ ?_
 ·repeat' ((conv=>whnf);first|refine rE _ (k27) ?_|refine rE _ (k28) ?_|refine rE _ (k29) ?_|refine rE _ (k30) ?_|refine rE _ (k31) ?_|refine rE _ (k32) ?_|refine rE _ (k33) ?_|refine rE _ (k34) ?_|(exact ⟨(),trivial,by (repeat' (first|exact trivial|exact LeV.same _|exact LeB.same _|exact rfl|exact fun _ _ _=>trivial|refine And.intro ?_ ?_));done⟩)|refine aS ?_|fail)
 rintro _ _
 clear k27 k28 k29 k30 k31 k32 k33 k34
 have k35:=HX xF [uT] (by decide) (by decide+kernel)
 have k36:=Gs xF [tg,vA] (by decide) (by decide+kernel)
 have k37:=HV xF [1,2] (by decide) (by decide+kernel)
 have k38:=Kq xF 65536 (by decide+kernel) (by decide+kernel)
 have k39:=Ee [uT] (by decide)
 have k40:=Ee [tg,vA] (by decide)
 have k41:=FX [1,2] (by decide)
 skip
 refine rA (β:=Unit) (fun _=>{sl:=[(1,.t (fds L3)),(3,.t (.bool true)),(4,.t (.bool true)),(5,.t (.bool true)),(11,.t (.bool true)),(12,.t (.slice 5 (VL.map sI))),(13,.ptr 13 0),(14,.t (.bool true)),(16,.t (.bool true))],bx:=[(13,.d 9 (sA vP))]}) (fun _=>True) ?_ ?_
 ·repeat' ((conv=>whnf);first|refine rE _ (k35) ?_|refine rE _ (k36) ?_|refine rE _ (k37) ?_|refine rE _ (k38) ?_|refine rE _ (k39) ?_|refine rE _ (k40) ?_|refine rE _ (k41) ?_|(exact ⟨(),trivial,by (repeat' (first|exact trivial|exact LeV.same _|exact LeB.same _|exact rfl|exact fun _ _ _=>trivial|refine And.intro ?_ ?_));done⟩)|refine aE1 ?_|refine aS ?_|fail)
 rintro _ _
 clear k35 k36 k37 k38 k39 k40 k41
 have q1:=MD
 have q2:=(HS [IS] [3,7] (by decide) (fun g hg=>by rw [List.mem_singleton.1 hg];decide) (by decide) (by decide+kernel)).lesAll (ts:=[.slice 15 [.agg (sA vP++[I 0,.str e0,.nil,.str e0,I 0,I 0])]]) ⟨Les.slice rfl (fun i x y hx hy=>by
  cases i with
  |zero=>
   cases hx;cases hy
   exact ⟨dp.append (ts:=sA vP) (us:=sA vP) ⟨rfl,by decide,fun i t u h1 h2=>by rw [h1] at h2;cases h2;exact Les.refl _⟩ (.cons (Les.refl _) rfl (.cons (Les.refl _) rfl (.cons (Les.nil 1) rfl (.cons (Les.refl _) rfl (.cons (Les.refl _) rfl (.cons (Les.refl _) rfl .nil)))))),rfl⟩
  |succ i=>cases hx),trivial⟩
 have q3:=FX [3,7] (by decide)
 dsimp only
 refine I4 ?_
 iterate 17 (refine Lz (.t (.bool true)) ?_ ?_; ·(conv=>whnf);rfl)
 repeat' ((conv=>whnf);first|exact trivial|refine rE _ (q1) ?_|refine rE _ (q2) ?_|refine rE _ (q3) ?_|refine rb1 ?_|refine aS ?_|fail)
end Go.TY
end
section
namespace Go.TY
open Go Go.DL Go.Proofs
end Go.TY
end
section
namespace Go.TY
open Go Go.DL Go.MM Go.Proofs
theorem Gr {l:List RF} {gs:List RG} (h:xU l gs=true):wQ gs=true∧wz l=0:=by
 unfold xU at h
 rw [Bool.and_eq_true] at h
 exact ⟨h.1,by simpa using h.2⟩
theorem BB {gs:List RG} (h:wQ gs=true):gs.length≤12:=by
 unfold wQ at h
 rw [Bool.and_eq_true,decide_eq_true_eq] at h
 exact h.2
theorem x5 {l:List Fd} {gs:List RG}:(tB l gs).length≤gs.length:=by
 unfold tB
 rw [List.length_map, ←Dr]
 exact Gh gs
theorem EY {l:List Fd} {gs:List RG} {N:Nat} (hg: ∀g∈gs,g.st.key.length<N) (_:0<N): ∀v∈tB l gs,v.ws.length<N:=by
 intro v hv
 obtain ⟨x,hx,rfl⟩:=List.mem_map.1 hv
 obtain ⟨s0,h1,h2,h⟩:=ua (l:=l) (tP.1 hx)
 rw [h]
 obtain ⟨g,k1,k2,_⟩:=td.1 h1
 show (sP l s0).length<N
 unfold sP
 rw [List.length_map, ←k2]
 exact hg g k1
theorem xD {l:List Fd} {gs:List RG} (h:tV l gs=0): ∃st,tI l gs=some st:=by
 cases hv:tI l gs with
 |some st=>exact ⟨st,rfl⟩
 |none=>exact absurd (uZ.1 h).2.2 (x6.1 (by rw [hv];rfl))
end Go.TY
end
section
namespace Go.TY
open Go Go.DL Go.MM Go.Proofs
def v7 (vs:List RV) (x:ByteArray):Int:=match vs.findIdx? fun v=>decide (v.name=x) with
 |some i=>i
 |none=> -1
theorem B8 {vs:List RV} {x:ByteArray} {i:Nat} (h:i<vs.length) (hx:vs[i].name=x) (hp: ∀j (hj:j<vs.length),j<i→vs[j].name≠x):vs.findIdx? (fun v=>decide (v.name=x))=some i:=by
 rw [List.findIdx?_eq_some_iff_getElem]
 exact ⟨h,by simp [hx],fun j hj=>by have:=hp j (by omega) hj;simp [this]⟩
theorem GV (vs:List RV) (x:ByteArray) (hl:vs.length<2^60):DCalls Tryz.prog 40 [.slice 5 (vs.map sI),.str x] (I (v7 vs x)):=by
 refine qO (rs:=[.tmp 4]) mixed Tryz.func40 l40 rfl rfl rfl (r:=[.int _ _]) (nlZ rfl) ?_
 have hlen:((vs.map sI).length:Int)=(vs.length:Int):=by rw [List.length_map]
 skip
 refine rq (α:=Nat) (fun i=>{sl:=[(0,.t (.slice 5 (vs.map sI))),(1,.t (.str x)),(5,.t (I i))],bx:=[]})
  (fun i=>i≤vs.length∧ ∀j (hj:j<vs.length),j<i→vs[j].name≠x) (fun i=>vs.length - i) 0 (by simp) ?_ ?_
 ·repeat' (first|exact trivial|exact LeV.same _|exact rfl|exact fun _ _ _=>trivial|refine And.intro ?_ ?_)
 rintro i ⟨hi,hp⟩
 rcases Nat.lt_or_ge i vs.length with h|h
 ·have hlt:(i:Int)<((vs.map sI).length:Int):=by omega
  have hx:(vs.map sI)[i]?.getD .nil= .agg (sR vs[i]):=by simp [h];rfl
  have hE:=sU vs[i].name x
  cases hb:sC vs[i].name x with
  |true=>
   rw [hb] at hE
   have e:v7 vs x=(i:Int):=by unfold v7;rw [B8 h (tf.1 hb) hp]
   rw [e]
   repeat' ((conv=>whnf);first|exact trivial|refine qv hlt ?_|(refine nv_ (.agg (sR vs[i])) (by first|exact hx|fail) ?_)|refine nb_ _ hE ?_|refine nT_ ?_|refine rix ?_|refine aS ?_|fail)
  |false=>
   rw [hb] at hE
   have hne:vs[i].name≠x:=fun e=>by rw [tf.2 e] at hb;cases hb
   repeat' ((conv=>whnf);first|refine qv hlt ?_|(refine nv_ (.agg (sR vs[i])) (by first|exact hx|fail) ?_)|refine nb_ _ hE ?_|refine nT_ ?_|refine aS ?_|fail)
   refine ⟨i+1,⟨h,fun j hj hlt=>?_⟩,by omega,?_⟩
   ·rcases Nat.lt_or_ge j i with h4|h4
    ·exact hp j hj h4
    ·obtain rfl:j=i:=by omega
     exact hne
   ·repeat' (first|exact trivial|exact LeV.same _|exact rfl|exact fun _ _ _=>trivial|exact lI|refine And.intro ?_ ?_)
 ·have hlt: ¬(i:Int)<((vs.map sI).length:Int):=by omega
  have e:v7 vs x= -1:=by
   unfold v7
   rw [show vs.findIdx? (fun v=>decide (v.name=x))=none from by
    rw [List.findIdx?_eq_none_iff]
    intro v hv
    obtain ⟨j,hj,rfl⟩:=List.getElem_of_mem hv
    have:=hp j hj (by omega)
    simp [this]]
  rw [e]
  repeat' ((conv=>whnf);first|exact trivial|refine qu hlt ?_|refine rix ?_|refine aS ?_|fail)
theorem xP (gs:List RG) (x:ByteArray) (hl:gs.length<2^60):DCalls Tryz.prog 41 [.slice 15 (gs.map sE),.str x] (.bool (tE gs x)):=by
 refine qO (rs:=[.tmp 4]) mixed Tryz.func41 l41 rfl rfl rfl (r:=[.bool _]) (nlZ rfl) ?_
 have hlen:((gs.map sE).length:Int)=(gs.length:Int):=by rw [List.length_map]
 unfold tE
 skip
 refine rq (α:=Nat) (fun i=>{sl:=[(0,.t (.slice 15 (gs.map sE))),(1,.t (.str x)),(5,.t (I i))],bx:=[]})
  (fun i=>i≤gs.length∧ ∀j (hj:j<gs.length),j<i→(gs[j].st.kind==4&&decide (gs[j].st.var=x))=false) (fun i=>gs.length - i) 0 (by simp) ?_ ?_
 ·repeat' (first|exact trivial|exact LeV.same _|exact rfl|exact fun _ _ _=>trivial|refine And.intro ?_ ?_)
 rintro i ⟨hi,hp⟩
 rcases Nat.lt_or_ge i gs.length with h|h
 ·have hlt:(i:Int)<((gs.map sE).length:Int):=by omega
  have hx:(gs.map sE)[i]?.getD .nil= .agg (sD gs[i]):=by simp [h];rfl
  have hk:=F9 gs[i]
  have hv:=Io gs[i]
  have hE:=sU gs[i].st.var x
  have yes:(gs[i].st.kind==4&&decide (gs[i].st.var=x))=true→(gs.any fun g=>g.st.kind==4&&decide (g.st.var=x))=true:=fun e=>List.any_eq_true.2 ⟨gs[i],List.getElem_mem h,e⟩
  have no:(gs[i].st.kind==4&&decide (gs[i].st.var=x))=false→ ∀j (hj:j<gs.length),j<i+1→(gs[j].st.kind==4&&decide (gs[j].st.var=x))=false:=fun e j hj hlt=>by
   rcases Nat.lt_or_ge j i with h4|h4
   ·exact hp j hj h4
   ·obtain rfl:j=i:=by omega
    exact e
  have hmu:gs.length - (i+1)<gs.length - i:=by omega
  by_cases c:gs[i].st.kind=4
  ·cases hb:sC gs[i].st.var x with
   |true=>
    rw [hb] at hE
    rw [yes (by simp [c,tf.1 hb])]
    clear yes no hp
    repeat' ((conv=>whnf);first|exact trivial|refine qv hlt ?_|(refine nv_ (.agg (sD gs[i])) (by first|exact hx|fail) ?_)|(refine nv_ (I gs[i].st.kind) (by first|exact hk|fail) ?_)|(refine nv_ (.str gs[i].st.var) (by first|exact hv|fail) ?_)|refine qx c ?_|refine nb_ _ hE ?_|refine rb1 ?_|(refine And.intro (by first|exact EH _|exact Fc _|fail) ?_)|refine aS ?_|fail)
   |false=>
    rw [hb] at hE
    have inv:=no (by rw [decide_eq_false (fun e=>by rw [tf.2 e] at hb;cases hb),Bool.and_false])
    clear yes no hp
    repeat' ((conv=>whnf);first|refine qv hlt ?_|(refine nv_ (.agg (sD gs[i])) (by first|exact hx|fail) ?_)|(refine nv_ (I gs[i].st.kind) (by first|exact hk|fail) ?_)|(refine nv_ (.str gs[i].st.var) (by first|exact hv|fail) ?_)|refine qx c ?_|refine nb_ _ hE ?_|(exact ⟨i+1,⟨h,inv⟩,hmu,by (repeat' (first|exact trivial|exact LeV.same _|exact rfl|exact fun _ _ _=>trivial|exact lI|refine And.intro ?_ ?_));done⟩)|(refine And.intro (by first|exact EH _|exact Fc _|fail) ?_)|refine aS ?_|fail)
  ·have inv:=no (by simp [c])
   clear yes no hp
   repeat' ((conv=>whnf);first|refine qv hlt ?_|(refine nv_ (.agg (sD gs[i])) (by first|exact hx|fail) ?_)|(refine nv_ (I gs[i].st.kind) (by first|exact hk|fail) ?_)|refine qw c ?_|(exact ⟨i+1,⟨h,inv⟩,hmu,by (repeat' (first|exact trivial|exact LeV.same _|exact rfl|exact fun _ _ _=>trivial|exact lI|refine And.intro ?_ ?_));done⟩)|(refine And.intro (by first|exact EH _|fail) ?_)|refine aS ?_|fail)
 ·have hlt: ¬(i:Int)<((gs.map sE).length:Int):=by omega
  have e:(gs.any fun g=>g.st.kind==4&&decide (g.st.var=x))=false:=by
   rw [List.any_eq_false]
   intro g hg
   obtain ⟨j,hj,rfl⟩:=List.getElem_of_mem hg
   have:=hp j hj (by omega)
   rw [this];simp
  rw [e]
  clear hp
  repeat' ((conv=>whnf);first|exact trivial|refine qu hlt ?_|refine rb0 ?_|refine aS ?_|fail)
end Go.TY
end
section
namespace Go.TY
open Go Go.DL Go.Proofs
end Go.TY
end
section
namespace Go.TY
open Go Go.DL Go.MM Go.Proofs
end Go.TY
end
section
namespace Go.TY
open Go Go.DL Go.MM Go.Proofs
theorem SmG.up {B B':Nat} {g:RG} (h:SmG B g) (hb:B≤B') (hB:B≤2^61):SmG B' g:=⟨h.st.mono hb,by have:=h.wt;omega,fun _=>h.names hB⟩
end Go.TY
end
section
namespace Go.TY
open Go Go.DL Go.Proofs
noncomputable def c6:aY:=(.seq (.region [oo 10 (.mov kF)] []) (.seq (.region [oo 23 (.call 10 []),mv 11 23] []) (.seq (.seq (.region [mv 24 0,mv 25 1,oo 26 (.call 36 [(tm 24),(tm 25)]),oo 27 (.not (tm 26)),mv 28 27,mF 29 2 28,oF 30 28 (.call 37 [tm 29]),oF 31 28 (.not (tm 30)),oo 32 (.pick (tm 28) kT (tm 31)),mv 33 32,mF 34 0 33,mF 35 1 33,oF 36 33 (.call 38 [(tm 34),(tm 35)]),oF 37 33 (.bin .neq (tm 36) (Kc 0)),oo 38 (.pick (tm 33) kT (tm 37)),mv 39 38,mF 40 0 39,mF 41 2 39,oF 42 39 (.call 38 [(tm 40),(tm 41)]),oF 43 39 (.bin .neq (tm 42) (Kc 0)),oo 44 (.pick (tm 39) kT (tm 43))] []) (.cond (tm 44) (.seq (.region [mv 45 11,mv 10 45] []) .ret) .skip)) (.seq (.region [oo 12 (.mov (.const .nil))] []) (.seq (.cut (.seq (.region [oo 13 (.mov (Kc 0))] []) (.block 0 (.loop (.seq (.seq (.region [mv 46 13,mv 47 1,ln 48 47,oo 49 (.bin .lss (tm 46) (tm 48))] []) (.cond (tm 49) .skip (.exit 0))) (.seq (.block 1 (.seq (.seq (.region [mv 52 3,mv 53 13,oo 54 (.bin .shr (tm 52) (tm 53)),oo 55 (.bin .rem (tm 54) (.const (Ui 2))),oo 56 (.bin .neq (tm 55) (.const (Ui 0)))] []) (.cond (tm 56) (.exit 1) .skip)) (.seq (.region [mv 57 4] []) (.cond (tm 57) (.region [mv 58 1,mv 59 13,ix 60 15 58 59,lA 61 15 60,⟨some 62,.buildS 61 15 1 [Z0,Z0,S0,Z0,Z0,.nil,S0,Z0,.nil,Z0,S0,.nil,S0,Z0,Z0] [(0,(tm 61))],none,[]⟩,mv 63 12,oo 64 (.append 56 61 15 200 (tm 62) (tm 63)),mv 12 64] []) (.region [mv 65 12,mv 66 1,mv 67 13,ix 68 15 66 67,lA 69 15 68,⟨some 70,.buildF 15 1 [Z0,Z0,S0,Z0,Z0,.nil,S0,Z0,.nil,Z0,S0,.nil,S0,Z0,Z0] [(0,(tm 69))],none,[]⟩,oo 71 (.append 56 61 15 200 (tm 65) (tm 70)),mv 12 71] []))))) (.region [mv 50 13,oo 51 (.bin .add (tm 50) (Kc 1)),mv 13 51] []))))))) (.seq (.seq (.region [mv 72 0,mv 73 12,oo 74 (.call 38 [(tm 72),(tm 73)]),oo 75 (.bin .neq (tm 74) (Kc 0))] []) (.cond (tm 75) (.seq (.region [oo 10 (.mov kF)] []) .ret) .skip)) (.seq (.region [mv 76 0,mv 77 1,oo 78 (.call 39 [(tm 76),(tm 77)]),mv 14 78] []) (.seq (.region [mv 79 0,mv 80 12,oo 81 (.call 39 [(tm 79),(tm 80)]),mv 15 81] []) (.seq (.region [mv 82 0,mv 83 2,oo 84 (.call 39 [(tm 82),(tm 83)]),mv 16 84] []) (.seq (.seq (.region [oo 17 (.mov (Kc 0))] []) (.block 2 (.loop (.seq (.seq (.region [mv 85 17,mv 86 15,ln 87 86,oo 88 (.bin .lss (tm 85) (tm 87))] []) (.cond (tm 88) .skip (.exit 2))) (.seq (.block 3 (.seq (.region [mv 91 14,mv 92 15,mv 93 17,ix 94 5 92 93,fa 95 0 94,ld 96 95,oo 97 (.call 40 [(tm 91),(tm 96)]),oo 98 (.bin .lss (tm 97) (Kc 0))] []) (.cond (tm 98) (.seq (.region [oo 10 (.mov kF)] []) .ret) .skip))) (.region [mv 89 17,oo 90 (.bin .add (tm 89) (Kc 1)),mv 17 90] [])))))) (.seq (.seq (.region [mv 99 1,ln 100 99,mv 101 2,ln 102 101,oo 103 (.bin .add (tm 100) (tm 102)),oo 104 (.bin .gtr (tm 103) (Kc 8))] []) (.cond (tm 104) (.seq (.region [mv 105 11,mv 10 105] []) .ret) .skip)) (.seq (.region [oo 18 (.mov kT)] []) (.seq (.seq (.region [oo 19 (.mov (Kc 0))] []) (.block 4 (.loop (.seq (.seq (.region [mv 106 19,mv 107 16,ln 108 107,oo 109 (.bin .lss (tm 106) (tm 108))] []) (.cond (tm 109) .skip (.exit 4))) (.seq (.block 5 (.seq (.region [mv 112 14,mv 113 16,mv 114 19,ix 115 5 113 114,fa 116 0 115,ld 117 116,oo 118 (.call 40 [(tm 112),(tm 117)]),mv 20 118] []) (.seq (.seq (.region [mv 119 20,oo 120 (.bin .lss (tm 119) (Kc 0))] []) (.cond (tm 120) (.exit 5) .skip)) (.seq (.region [mv 121 14,mv 122 20,ix 123 5 121 122,lA 124 5 123,⟨some 21,.alloc [S0,Z0,.nil,Z0,Z0],none,[]⟩,o0 (.store 5 (tm 21) (tm 124))] []) (.seq (.cut (.seq (.region [fa 125 3 21,ld 126 125,oo 127 (.bin .eql (tm 126) (Kc 0)),mv 128 127,oT 129 128 (.offA 4 (tm 21)),oT 130 128 (.load 1 false (tm 129)),oT 131 128 (.bin .eql (tm 130) (Kc 0)),oo 132 (.pick (tm 128) (tm 131) kF),mv 133 132,mF 134 16 133,mF 135 19 133,oF 136 133 (.idxL 5 (tm 134) (tm 135)),oF 137 133 (.offA 3 (tm 136)),oF 138 133 (.load 1 false (tm 137)),oF 139 133 (.bin .eql (tm 138) (Kc 0)),mF 140 139 133,mT 141 16 140,mT 142 19 140,oT 143 140 (.idxL 5 (tm 141) (tm 142)),oT 144 140 (.offA 4 (tm 143)),oT 145 140 (.load 1 false (tm 144)),oT 146 140 (.bin .eql (tm 145) (Kc 0)),oF 147 133 (.pick (tm 140) (tm 146) kF),oo 148 (.pick (tm 133) kT (tm 147))] []) (.cond (tm 148) (.seq (.region [mv 149 16,mv 150 19,ix 151 5 149 150,fa 152 3 151,ld 153 152,fa 154 3 21,o0 (.store 1 (tm 154) (tm 153))] []) (.region [mv 155 16,mv 156 19,ix 157 5 155 156,fa 158 4 157,ld 159 158,fa 160 4 21,o0 (.store 1 (tm 160) (tm 159))] [])) .skip))) (.seq (.cut (.seq (.region [mv 161 1,fa 162 0 21,ld 163 162,oo 164 (.call 41 [(tm 161),(tm 163)]),mv 165 164,mT 166 2 165,oT 167 165 (.offA 0 (tm 21)),oT 168 165 (.load 1 false (tm 167)),oT 169 165 (.call 41 [(tm 166),(tm 168)]),oo 170 (.pick (tm 165) (tm 169) kF)] []) (.cond (tm 170) (.seq (.region [mv 171 14,mv 172 20,ix 173 5 171 172,fa 174 3 173,ld 175 174,fa 176 3 21,o0 (.store 1 (tm 176) (tm 175))] []) (.region [mv 177 14,mv 178 20,ix 179 5 177 178,fa 180 4 179,ld 181 180,fa 182 4 21,o0 (.store 1 (tm 182) (tm 181))] [])) .skip))) (.region [mv 183 18,mv 184 183,oT 185 184 (.load 5 true (tm 21)),mT 186 16 184,mT 187 19 184,oT 188 184 (.idxL 5 (tm 186) (tm 187)),oT 189 184 (.load 5 true (tm 188)),oT 190 184 (.call 42 [(tm 185),(tm 189)]),oo 191 (.pick (tm 184) (tm 190) kF),mv 18 191] []))))))) (.region [mv 110 19,oo 111 (.bin .add (tm 110) (Kc 1)),mv 19 111] [])))))) (.seq (.region [oo 22 (.mov (.const .nil))] []) (.seq (.region [mv 192 22,mv 193 1,oo 194 (.append 56 61 15 200 (tm 192) (tm 193)),mv 22 194] []) (.seq (.region [mv 195 22,mv 196 2,oo 197 (.append 56 61 15 200 (tm 195) (tm 196)),mv 22 197] []) (.seq (.region [mv 198 11,mv 199 198,mT 200 0 199,mT 201 22 199,oT 202 199 (.call 38 [(tm 200),(tm 201)]),oT 203 199 (.bin .eql (tm 202) (Kc 0)),mT 204 18 199,oT 205 199 (.eqB false (tm 203) (tm 204)),oo 206 (.pick (tm 199) (tm 205) kF),mv 10 206] []) .ret)))))))))))))))))
theorem l6:(Tryz.f6.body.bind (bD Tryz.prog 207 [5000005,5000031,5000034,8000070]))=some c6:=by kernel_rfl
end Go.TY
end
section
namespace Go.TY
open Go Go.DL Go.MM Go.Proofs
theorem B9 {vs:List RV} {x:ByteArray} (h:vs.findIdx? (fun v=>decide (v.name=x))=none):v7 vs x= -1∧vs.find? (fun v=>decide (v.name=x))=none:=by
 refine ⟨by unfold v7;rw [h],?_⟩
 rw [List.findIdx?_eq_none_iff] at h
 rw [List.find?_eq_none]
 intro v hv
 simp [h v hv]
theorem yV {vs:List RV} {x:ByteArray} {k:Nat} (h:vs.findIdx? (fun v=>decide (v.name=x))=some k):v7 vs x=k∧ ∃hk:k<vs.length,vs.find? (fun v=>decide (v.name=x))=some vs[k]:=by
 refine ⟨by unfold v7;rw [h],?_⟩
 rw [List.findIdx?_eq_some_iff_getElem] at h
 obtain ⟨hk,h1,h2⟩:=h
 refine ⟨hk,?_⟩
 rw [List.find?_eq_some_iff_getElem]
 exact ⟨h1,k,hk,rfl,fun j hj=>by have:=h2 j hj;simpa using this⟩
theorem EC {vs:List RV} {x:ByteArray} (h: ∃v∈vs,v.name=x): ∃k,vs.findIdx? (fun v=>decide (v.name=x))=some k:=by
 cases hf:vs.findIdx? (fun v=>decide (v.name=x)) with
 |some k=>exact ⟨k,rfl⟩
 |none=>
  rw [List.findIdx?_eq_none_iff] at hf
  obtain ⟨v,hv,e⟩:=h
  have:=hf v hv
  simp [e] at this
theorem EJ {l:List Fd} {gs:List RG} {x:ByteArray} (h:x∈tO gs): ∃v∈tB l gs,v.name=x:=by
 obtain ⟨s0,_,_,hs⟩:=ua (l:=l) (tP.1 h)
 exact ⟨_,List.mem_map.2 ⟨x,h,rfl⟩,by rw [hs];rfl⟩
def uM (p q:List RG) (vs:List RV) (c:RV):Bool:=match vs.find? fun a=>decide (a.name=c.name) with
 |none=>true
 |some a=>decide (uw p q a c=c)
theorem C6 (l:List Fd) (p q:List RG):yQ l p q=(tB l q).all (uM p q (tB l p)):=rfl
def wv (a c:RV):RV:=if (a.n=0∧a.m=0)∨(c.n=0∧c.m=0) then {a with n:=c.n,m:=c.m } else a
theorem Bx (p q:List RG) (a c:RV):uw p q a c=if tE p a.name&&tE q a.name then {wv a c with n:=a.n,m:=a.m } else wv a c:=rfl
theorem Bw (a c:RV):(wv a c).ws=a.ws:=by unfold wv;split <;> rfl
theorem F2 (p q:List RG) (a c:RV):(uw p q a c).ws=a.ws:=by
 rw [Bx]
 split
 ·exact Bw a c
 ·exact Bw a c
theorem C5 (a c:RV):(wv a c).name=a.name:=by unfold wv;split <;> rfl
theorem law6 (l:List RF) (hl:l.length<2^60) (hn: ∀f∈l,f.name.size<2^62) (p q:List RG) (hpl:p.length<2^30) (hp: ∀g∈p,SmG (2^30) g) (hql:q.length<2^30) (hq: ∀g∈q,SmG (2^30) g) (left:Int) (back:Bool):
  DCalls Tryz.prog 6 [vD l,.slice 15 (p.map sE),.slice 15 (q.map sE),.int .u8 left,.bool back] (.bool true):=by
 refine qO (rs:=[.tmp 10]) mixed Tryz.func6 l6 rfl rfl rfl (r:=[.bool true]) (nlZ rfl) ?_
 have h0:=EX
 have h1:=Ga l hl hn p (by omega) fun g hgm=>by have:=(hp g hgm).wt;omega
 have h2:=xT q (by omega) fun g hgm=>by have:=(hq g hgm).wt;omega
 cases hR:xU l p with
 |false=>
  rw [hR] at h1
  repeat' ((conv=>whnf);first|exact trivial|refine rE _ (h0) ?_|refine rE _ (h1) ?_|refine rb1 ?_|fail)
 |true=>
 rw [hR] at h1
 obtain ⟨hf,hc⟩:=Gr hR
 have hle:=BB hf
 have ck:=BV hc
 have hok:=ck.ok
 have hfd:=ck.fds
 generalize l.map RF.fd=L at *
 rw [hfd] at h1 ⊢
 cases hF:wQ q with
 |false=>
  rw [hF] at h2
  generalize MM.fds L=FL at *
  repeat' ((conv=>whnf);first|exact trivial|refine rE _ (h0) ?_|refine rE _ (h1) ?_|refine rE _ (h2) ?_|refine rb1 ?_|fail)
 |true=>
 rw [hF] at h2
 have hqe:=BB hF
 have a1:=vY L hok p (by omega) fun g h=>(hp g h).up (by decide) (by decide)
 have a2:=vY L hok q (by omega) fun g h=>(hq g h).up (by decide) (by decide)
 by_cases hp0:tV L p=0
 case neg=>
  generalize tV L p=pv at *
  generalize MM.fds L=FL at *
  repeat' ((conv=>whnf);first|exact trivial|refine rE _ (h0) ?_|refine rE _ (h1) ?_|refine rE _ (h2) ?_|refine rE _ (a1) ?_|refine qz hp0 ?_|refine rb1 ?_|refine aS ?_|fail)
 by_cases hq0:tV L q=0
 case neg=>
  rw [hp0] at a1
  generalize tV L q=pv at *
  generalize MM.fds L=FL at *
  repeat' ((conv=>whnf);first|exact trivial|refine rE _ (h0) ?_|refine rE _ (h1) ?_|refine rE _ (h2) ?_|refine rE _ (a1) ?_|refine rE _ (a2) ?_|refine qz hq0 ?_|refine aN0 ?_|refine rb1 ?_|refine aS ?_|fail)
 rw [hp0] at a1
 rw [hq0] at a2
 have hpn:((p.map sE).length:Int)=(p.length:Int):=by rw [List.length_map]
 have hqn:((q.map sE).length:Int)=(q.length:Int):=by rw [List.length_map]
 repeat' ((conv=>whnf);first|refine rE _ (h0) ?_|refine rE _ (h1) ?_|refine rE _ (h2) ?_|refine rE _ (a1) ?_|refine rE _ (a2) ?_|refine aN0 ?_|refine aS ?_|fail)
 refine rA (β:=List RG) (fun sel=>{sl:=[(0,.t (MM.fds L)),(1,.t (.slice 15 (p.map sE))),(2,.t (.slice 15 (q.map sE))),(11,.t (.bool true)),(12,.t (.slice 15 (sel.map sE)))],bx:=[]}) (fun sel=>sel.length≤p.length∧ ∀g∈sel,g∈p) ?_ ?_
 ·cases back with
  |true=>
   skip
   refine qZ 0 (α:=Nat×List RG) (β:=List RG) (fun r=>{sl:=[(0,.t (MM.fds L)),(1,.t (.slice 15 (p.map sE))),(2,.t (.slice 15 (q.map sE))),(3,.t (.int .u8 left)),(4,.t (.bool true)),(11,.t (.bool true)),(12,.own 64 61 15 (r.2.map sE)),(13,.t (I r.1))],bx:=[]})
    (fun r=>r.1≤p.length∧r.2.length≤r.1∧ ∀g∈r.2,g∈p) (fun r=>p.length - r.1)
    (fun sel=>{sl:=[(0,.t (MM.fds L)),(1,.t (.slice 15 (p.map sE))),(2,.t (.slice 15 (q.map sE))),(11,.t (.bool true)),(12,.t (.slice 15 (sel.map sE)))],bx:=[]}) (fun sel=>sel.length≤p.length∧ ∀g∈sel,g∈p) (0,[]) ⟨by simp,by simp,by simp⟩ ?_ ?_ ?_
   ·repeat' (first|exact trivial|exact LeV.same _|exact rfl|exact fun _ _ _=>trivial|exact LeV.nil _ _ _|refine And.intro ?_ ?_)
   ·rintro ⟨i,sel⟩ ⟨hi,hsl,hsm⟩
    dsimp only at hi hsl hsm
    rcases Nat.lt_or_ge i p.length with h|h
    ·have hlt:(i:Int)<((p.map sE).length:Int):=by omega
     have hx:(p.map sE)[i]?.getD .nil= .agg (sD p[i]):=by simp [h];rfl
     have hcl:=sK p[i]
     have inv1:i+1≤p.length∧sel.length≤i+1∧ ∀g∈sel,g∈p:=⟨h,by omega,hsm⟩
     have inv2:i+1≤p.length∧(p[i]::sel).length≤i+1∧ ∀g∈p[i]::sel,g∈p:=⟨h,by simp only [List.length_cons];omega,fun g hg=>by
      rcases List.mem_cons.1 hg with rfl|hg
      ·exact List.getElem_mem h
      ·exact hsm g hg⟩
     have hmu:p.length - (i+1)<p.length - i:=by omega
     have e2:(p[i]::sel).map sE=[T.agg (sD p[i])]++sel.map sE:=rfl
     generalize p[i]=g at *
     clear hp hq hsm
     by_cases cz:(left.fdiv (2^min ((i:Int)).toNat IntKind.u8.bits)).tmod 2=0
     ·repeat' ((conv=>whnf);first|refine qv hlt ?_|refine qy cz ?_|(refine nv_ (.agg (sD g)) (by first|exact hx|fail) ?_)|(exact ⟨(i+1,g::sel),inv2,hmu,by (repeat' (first|(exact rX e2)|exact trivial|exact LeV.same _|exact rfl|exact fun _ _ _=>trivial|exact lI|refine And.intro ?_ ?_));done⟩)|refine nT_ ?_|(refine And.intro (by first|exact hcl|exact ⟨trivial,hcl⟩|((simp only [List.length_map];omega);done)|fail) ?_)|refine aS ?_|fail)
     ·repeat' ((conv=>whnf);first|refine qv hlt ?_|refine qz cz ?_|(exact ⟨(i+1,sel),inv1,hmu,by (repeat' (first|exact trivial|exact LeV.same _|exact rfl|exact fun _ _ _=>trivial|exact lI|refine And.intro ?_ ?_));done⟩)|refine aS ?_|fail)
    ·have hlt: ¬(i:Int)<((p.map sE).length:Int):=by omega
     have inv:sel.length≤p.length∧ ∀g∈sel,g∈p:=⟨by omega,hsm⟩
     repeat' ((conv=>whnf);first|refine qu hlt ?_|(exact ⟨sel,inv,by (repeat' (first|(exact LeV.data _ _ _ _)|exact trivial|exact LeV.same _|exact rfl|exact fun _ _ _=>trivial|refine And.intro ?_ ?_));done⟩)|refine aS ?_|fail)
   ·rintro sel hsel
    exact ⟨sel,hsel,by (repeat' (first|exact trivial|exact LeV.same _|exact rfl|exact fun _ _ _=>trivial|refine And.intro ?_ ?_))⟩
  |false=>
   skip
   refine qZ 0 (α:=Nat×List RG) (β:=List RG) (fun r=>{sl:=[(0,.t (MM.fds L)),(1,.t (.slice 15 (p.map sE))),(2,.t (.slice 15 (q.map sE))),(3,.t (.int .u8 left)),(4,.t (.bool false)),(11,.t (.bool true)),(12,.own 71 61 15 (r.2.map sE)),(13,.t (I r.1))],bx:=[]})
    (fun r=>r.1≤p.length∧r.2.length≤r.1∧ ∀g∈r.2,g∈p) (fun r=>p.length - r.1)
    (fun sel=>{sl:=[(0,.t (MM.fds L)),(1,.t (.slice 15 (p.map sE))),(2,.t (.slice 15 (q.map sE))),(11,.t (.bool true)),(12,.t (.slice 15 (sel.map sE)))],bx:=[]}) (fun sel=>sel.length≤p.length∧ ∀g∈sel,g∈p) (0,[]) ⟨by simp,by simp,by simp⟩ ?_ ?_ ?_
   ·repeat' (first|exact trivial|exact LeV.same _|exact rfl|exact fun _ _ _=>trivial|exact LeV.nil _ _ _|refine And.intro ?_ ?_)
   ·rintro ⟨i,sel⟩ ⟨hi,hsl,hsm⟩
    dsimp only at hi hsl hsm
    rcases Nat.lt_or_ge i p.length with h|h
    ·have hlt:(i:Int)<((p.map sE).length:Int):=by omega
     have hx:(p.map sE)[i]?.getD .nil= .agg (sD p[i]):=by simp [h];rfl
     have hcl:=sK p[i]
     have inv1:i+1≤p.length∧sel.length≤i+1∧ ∀g∈sel,g∈p:=⟨h,by omega,hsm⟩
     have inv2:i+1≤p.length∧(sel++[p[i]]).length≤i+1∧ ∀g∈sel++[p[i]],g∈p:=⟨h,by simp only [List.length_append,List.length_cons,List.length_nil];omega,fun g hg=>by
      rcases List.mem_append.1 hg with hg|hg
      ·exact hsm g hg
      ·rw [List.mem_singleton.1 hg];exact List.getElem_mem h⟩
     have hmu:p.length - (i+1)<p.length - i:=by omega
     have e2:(sel++[p[i]]).map sE=sel.map sE++[T.agg (sD p[i])]:=by rw [List.map_append];rfl
     generalize p[i]=g at *
     clear hp hq hsm
     by_cases cz:(left.fdiv (2^min ((i:Int)).toNat IntKind.u8.bits)).tmod 2=0
     ·repeat' ((conv=>whnf);first|refine qv hlt ?_|refine qy cz ?_|(refine nv_ (.agg (sD g)) (by first|exact hx|fail) ?_)|(exact ⟨(i+1,sel++[g]),inv2,hmu,by (repeat' (first|(exact rX e2)|exact trivial|exact LeV.same _|exact rfl|exact fun _ _ _=>trivial|exact lI|refine And.intro ?_ ?_));done⟩)|refine nT_ ?_|(refine And.intro (by first|exact hcl|exact ⟨trivial,hcl⟩|((simp only [List.length_map];omega);done)|fail) ?_)|refine aS ?_|fail)
     ·repeat' ((conv=>whnf);first|refine qv hlt ?_|refine qz cz ?_|(exact ⟨(i+1,sel),inv1,hmu,by (repeat' (first|exact trivial|exact LeV.same _|exact rfl|exact fun _ _ _=>trivial|exact lI|refine And.intro ?_ ?_));done⟩)|refine aS ?_|fail)
    ·have hlt: ¬(i:Int)<((p.map sE).length:Int):=by omega
     have inv:sel.length≤p.length∧ ∀g∈sel,g∈p:=⟨by omega,hsm⟩
     repeat' ((conv=>whnf);first|refine qu hlt ?_|(exact ⟨sel,inv,by (repeat' (first|(exact LeV.data _ _ _ _)|exact trivial|exact LeV.same _|exact rfl|exact fun _ _ _=>trivial|refine And.intro ?_ ?_));done⟩)|refine aS ?_|fail)
   ·rintro sel hsel
    exact ⟨sel,hsel,by (repeat' (first|exact trivial|exact LeV.same _|exact rfl|exact fun _ _ _=>trivial|refine And.intro ?_ ?_))⟩
 rintro sel ⟨hsl,hsm⟩
 have hs0:=HY hp0 hsl hsm
 have a3:=vY L hok sel (by omega) fun g h=>(hp g (hsm g h)).up (by decide) (by decide)
 rw [hs0] at a3
 obtain ⟨st1,hst1⟩:=xD hp0
 obtain ⟨st2,hst2⟩:=xD hs0
 obtain ⟨st3,hst3⟩:=xD hq0
 have v1:=vO L hok p (by omega) (fun g h=>⟨(hp g h).st.mono (by decide),wm ((uZ.1 hp0).2.1 g h).2⟩) st1 hst1
 have v2:=vO L hok sel (by omega) (fun g h=>⟨(hp g (hsm g h)).st.mono (by decide),wm ((uZ.1 hp0).2.1 g (hsm g h)).2⟩) st2 hst2
 have v3:=vO L hok q (by omega) (fun g h=>⟨(hq g h).st.mono (by decide),wm ((uZ.1 hq0).2.1 g h).2⟩) st3 hst3
 have hvl1:=x5 (l:=L) (gs:=p)
 have hvl2:=x5 (l:=L) (gs:=sel)
 have hvl3:=x5 (l:=L) (gs:=q)
 have hws:=EY (l:=L) (gs:=p) (N:=2^30) (fun g h=>(hp g h).st.len) (by decide)
 have hnames: ∀v∈tB L sel, ∃u∈tB L p,u.name=v.name:=fun v hv=>EJ (Eg hsm (zO v hv))
 have a4:p.length+q.length≤8→DCalls Tryz.prog 38 [MM.fds L,.slice 15 (p.map sE++q.map sE)] (I (tV L (p++q))):=fun _=>by
  have:=vY L hok (p++q) (by rw [List.length_append];omega) fun g h=>by
   rcases List.mem_append.1 h with h|h
   ·exact (hp g h).up (by decide) (by decide)
   ·exact (hq g h).up (by decide) (by decide)
  rwa [List.map_append] at this
 have hboth:=fun h:p.length+q.length≤8=>F3 h hp0 hq0
 rw [C6] at hboth
 have hfind:=fun x=>GV (tB L p) x (by omega)
 have htp:=fun x=>xP p x (by omega)
 have htq:=fun x=>xP q x (by omega)
 clear hs0 hsm hst1 hst2 hst3 hp hq hok hfd ck hf hF hR h1 h2 a1 a2 hp0 hq0 hc hn hl
 generalize tB L sel=bs at *
 generalize tB L q=cs at *
 generalize tB L p=av at *
 generalize tV L (p++q)=pb at *
 generalize MM.fds L=FL at *
 have hbn:((bs.map sI).length:Int)=(bs.length:Int):=by rw [List.length_map]
 have hcn:((cs.map sI).length:Int)=(cs.length:Int):=by rw [List.length_map]
 have han:((av.map sI).length:Int)=(av.length:Int):=by rw [List.length_map]
 repeat' ((conv=>whnf);first|refine rE _ (a3) ?_|refine rE _ (v1) ?_|refine rE _ (v2) ?_|refine rE _ (v3) ?_|refine qy rfl ?_|refine aS ?_|fail)
 refine qZ 2 (α:=Nat) (β:=Unit) (fun i=>{sl:=[(0,.t FL),(1,.t (.slice 15 (p.map sE))),(2,.t (.slice 15 (q.map sE))),(11,.t (.bool true)),(14,.t (.slice 5 (av.map sI))),(15,.t (.slice 5 (bs.map sI))),(16,.t (.slice 5 (cs.map sI))),(17,.t (I i))],bx:=[]})
  (fun i=>i≤bs.length) (fun i=>bs.length - i) (fun _=>{sl:=[(0,.t FL),(1,.t (.slice 15 (p.map sE))),(2,.t (.slice 15 (q.map sE))),(11,.t (.bool true)),(14,.t (.slice 5 (av.map sI))),(16,.t (.slice 5 (cs.map sI)))],bx:=[]}) (fun _=>True) 0 (by simp) ?_ ?_ ?_
 ·repeat' (first|exact trivial|exact LeV.same _|exact rfl|exact fun _ _ _=>trivial|refine And.intro ?_ ?_)
 ·rintro i hi
  rcases Nat.lt_or_ge i bs.length with h|h
  ·have hlt:(i:Int)<((bs.map sI).length:Int):=by omega
   have hx:(bs.map sI)[i]?.getD .nil= .agg (sR bs[i]):=by simp [h];rfl
   have hmu:bs.length - (i+1)<bs.length - i:=by omega
   obtain ⟨k,hk⟩:=EC (hnames bs[i] (List.getElem_mem h))
   have hfd:=hfind bs[i].name
   rw [(yV hk).1] at hfd
   have hnn: ¬(k:Int)<0:=by omega
   clear hnames hboth a4 htp htq
   repeat' ((conv=>whnf);first|refine qv hlt ?_|(refine nv_ (.agg (sR bs[i])) (by first|exact hx|fail) ?_)|refine rE _ (hfd) ?_|refine qu hnn ?_|(exact ⟨i+1,h,hmu,by (repeat' (first|exact trivial|exact LeV.same _|exact rfl|exact fun _ _ _=>trivial|exact lI|refine And.intro ?_ ?_));done⟩)|refine nT_ ?_|refine aS ?_|fail)
  ·have hlt: ¬(i:Int)<((bs.map sI).length:Int):=by omega
   repeat' ((conv=>whnf);first|refine qu hlt ?_|(exact ⟨(),trivial,by (repeat' (first|exact trivial|exact LeV.same _|exact rfl|exact fun _ _ _=>trivial|refine And.intro ?_ ?_));done⟩)|refine aS ?_|fail)
 rintro _ _
 clear hnames hbn v1 v2 v3 a3
 by_cases h8:p.length+q.length≤8
 case neg=>
  have q8:IntKind.i64.wrap (((p.map sE).length:Int)+((q.map sE).length:Int))>8:=by rw [mG (by omega) (by omega)];omega
  repeat' ((conv=>whnf);first|exact trivial|refine qv q8 ?_|refine rb1 ?_|refine aS ?_|fail)
 have q8: ¬IntKind.i64.wrap (((p.map sE).length:Int)+((q.map sE).length:Int))>8:=by rw [mG (by omega) (by omega)];omega
 have a4:=a4 h8
 have hboth:=hboth h8
 repeat' ((conv=>whnf);first|refine qu q8 ?_|refine aS ?_|fail)
 refine qZ 4 (α:=Nat×Bool) (β:=Unit) (fun r=>{sl:=[(0,.t FL),(1,.t (.slice 15 (p.map sE))),(2,.t (.slice 15 (q.map sE))),(11,.t (.bool true)),(14,.t (.slice 5 (av.map sI))),(16,.t (.slice 5 (cs.map sI))),(18,.t (.bool r.2)),(19,.t (I r.1))],bx:=[]})
  (fun r=>r.1≤cs.length∧r.2=(cs.take r.1).all (uM p q av)) (fun r=>cs.length - r.1)
  (fun _=>{sl:=[(0,.t FL),(1,.t (.slice 15 (p.map sE))),(2,.t (.slice 15 (q.map sE))),(11,.t (.bool true)),(18,.t (.bool (cs.all (uM p q av))))],bx:=[]}) (fun _=>True) (0,true) ⟨by simp,by simp⟩ ?_ ?_ ?_
 ·repeat' (first|exact trivial|exact LeV.same _|exact rfl|exact fun _ _ _=>trivial|refine And.intro ?_ ?_)
 ·rintro ⟨i,ag⟩ ⟨hi,hag⟩
  dsimp only at hi hag
  rcases Nat.lt_or_ge i cs.length with h|h
  ·have hlt:(i:Int)<((cs.map sI).length:Int):=by omega
   have hx:(cs.map sI)[i]?.getD .nil= .agg (sR cs[i]):=by simp [h];rfl
   have hmu:cs.length - (i+1)<cs.length - i:=by omega
   have hnx:(cs.take (i+1)).all (uM p q av)=(ag&&uM p q av cs[i]):=by rw [List.take_succ_eq_append_getElem h,List.all_append, ←hag];simp
   have hfd:=hfind cs[i].name
   generalize cs[i]=c at *
   clear hboth a4 hag
   cases hfi:av.findIdx? (fun v=>decide (v.name=c.name)) with
   |none=>
    obtain ⟨e1,e2⟩:=B9 hfi
    rw [e1] at hfd
    have inv:i+1≤cs.length∧ag=(cs.take (i+1)).all (uM p q av):=⟨h,by rw [hnx];unfold uM;rw [e2];simp⟩
    repeat' ((conv=>whnf);first|refine qv hlt ?_|(refine nv_ (.agg (sR c)) (by first|exact hx|fail) ?_)|refine rE _ (hfd) ?_|(exact ⟨(i+1,ag),inv,hmu,by (repeat' (first|exact trivial|exact LeV.same _|exact rfl|exact fun _ _ _=>trivial|exact lI|refine And.intro ?_ ?_));done⟩)|refine nT_ ?_|refine aD1 ?_|refine aS ?_|fail)
   |some k=>
    obtain ⟨e1,hk,e2⟩:=yV hfi
    rw [e1] at hfd
    have hnn: ¬(k:Int)<0:=by omega
    have hkl:(k:Int)<((av.map sI).length:Int):=by omega
    have hy:(av.map sI)[k]?.getD .nil= .agg (sR av[k]):=by simp [hk];rfl
    have inv:i+1≤cs.length∧(ag&&decide (uw p q av[k] c=c))=(cs.take (i+1)).all (uM p q av):=⟨h,by rw [hnx];unfold uM;rw [e2]⟩
    have hwa:=hws av[k] (List.getElem_mem hk)
    clear hfi e1 e2 hnx
    generalize av[k]=a at *
    have hsv:=xg (uw p q a c) c (Or.inl (by rw [F2];omega))
    have hse:wJ (uw p q a c) c=decide (uw p q a c=c):=by
     by_cases e:uw p q a c=c
     ·rw [decide_eq_true e];exact vW.2 e
     ·rw [decide_eq_false e];exact tL vW e
    rw [hse] at hsv
    have hta:=htp a.name
    have htb:=htq a.name
    have hav:=Bx p q a c
    have h0n:=C5 a c
    generalize decide (uw p q a c=c)=same at *
    repeat' ((conv=>whnf);first|refine qv hlt ?_|(refine nv_ (.agg (sR c)) (by first|exact hx|fail) ?_)|(refine nv_ (.agg (sR a)) (by first|exact hy|fail) ?_)|refine rE _ (hfd) ?_|refine qu hnn ?_|refine nT_ ?_|refine aS ?_|fail)
    refine rA (β:=RV) (fun b=>{sl:=[(0,.t FL),(1,.t (.slice 15 (p.map sE))),(2,.t (.slice 15 (q.map sE))),(11,.t (.bool true)),(14,.t (.slice 5 (av.map sI))),(16,.t (.slice 5 (cs.map sI))),(18,.t (.bool ag)),(19,.t (I i)),(20,.t (I k)),(21,.ptr 21 0)],bx:=[(21,.d 5 (sR b))]}) (fun b=>b=wv a c) ?_ ?_
    ·have hA:(a.n=0∧a.m=0)∨(c.n=0∧c.m=0)→wv a c={a with n:=c.n,m:=c.m }:=fun h=>if_pos h
     have hB: ¬((a.n=0∧a.m=0)∨(c.n=0∧c.m=0))→wv a c=a:=fun h=>if_neg h
     clear hsv hta htb hav h0n hse inv
     generalize wv a c=b0 at *
     obtain ⟨an,af,aw,a1,a2⟩:=a
     obtain ⟨cn,cf,cw,c1,c2⟩:=c
     dsimp only at hA hB
     by_cases z1:a1=0
     ·by_cases z2:a2=0
      ·have e:=hA (Or.inl ⟨z1,z2⟩)
       repeat' ((conv=>whnf);first|(refine nv_ (.agg (sR ⟨cn,cf,cw,c1,c2⟩)) (by first|exact hx|fail) ?_)|refine qx z1 ?_|refine qx z2 ?_|(exact ⟨⟨an,af,aw,c1,c2⟩,e.symm,by (repeat' (first|exact trivial|exact LeV.same _|exact LeB.same _|exact rfl|exact fun _ _ _=>trivial|refine And.intro ?_ ?_));done⟩)|refine nT_ ?_|refine aS ?_|fail)
      ·by_cases z3:c1=0
       ·by_cases z4:c2=0
        ·have e:=hA (Or.inr ⟨z3,z4⟩)
         repeat' ((conv=>whnf);first|(refine nv_ (.agg (sR ⟨cn,cf,cw,c1,c2⟩)) (by first|exact hx|fail) ?_)|refine qx z1 ?_|refine qw z2 ?_|refine qx z3 ?_|refine qx z4 ?_|(exact ⟨⟨an,af,aw,c1,c2⟩,e.symm,by (repeat' (first|exact trivial|exact LeV.same _|exact LeB.same _|exact rfl|exact fun _ _ _=>trivial|refine And.intro ?_ ?_));done⟩)|refine nT_ ?_|refine aS ?_|fail)
        ·have e:=hB (by omega)
         repeat' ((conv=>whnf);first|(refine nv_ (.agg (sR ⟨cn,cf,cw,c1,c2⟩)) (by first|exact hx|fail) ?_)|refine qx z1 ?_|refine qw z2 ?_|refine qx z3 ?_|refine qw z4 ?_|(exact ⟨⟨an,af,aw,a1,a2⟩,e.symm,by (repeat' (first|exact trivial|exact LeV.same _|exact LeB.same _|exact rfl|exact fun _ _ _=>trivial|refine And.intro ?_ ?_));done⟩)|refine nT_ ?_|refine aS ?_|fail)
       ·have e:=hB (by omega)
        repeat' ((conv=>whnf);first|(refine nv_ (.agg (sR ⟨cn,cf,cw,c1,c2⟩)) (by first|exact hx|fail) ?_)|refine qx z1 ?_|refine qw z2 ?_|refine qw z3 ?_|(exact ⟨⟨an,af,aw,a1,a2⟩,e.symm,by (repeat' (first|exact trivial|exact LeV.same _|exact LeB.same _|exact rfl|exact fun _ _ _=>trivial|refine And.intro ?_ ?_));done⟩)|refine nT_ ?_|refine aS ?_|fail)
     ·by_cases z3:c1=0
      ·by_cases z4:c2=0
       ·have e:=hA (Or.inr ⟨z3,z4⟩)
        repeat' ((conv=>whnf);first|(refine nv_ (.agg (sR ⟨cn,cf,cw,c1,c2⟩)) (by first|exact hx|fail) ?_)|refine qw z1 ?_|refine qx z3 ?_|refine qx z4 ?_|(exact ⟨⟨an,af,aw,c1,c2⟩,e.symm,by (repeat' (first|exact trivial|exact LeV.same _|exact LeB.same _|exact rfl|exact fun _ _ _=>trivial|refine And.intro ?_ ?_));done⟩)|refine nT_ ?_|refine aS ?_|fail)
       ·have e:=hB (by omega)
        repeat' ((conv=>whnf);first|(refine nv_ (.agg (sR ⟨cn,cf,cw,c1,c2⟩)) (by first|exact hx|fail) ?_)|refine qw z1 ?_|refine qx z3 ?_|refine qw z4 ?_|(exact ⟨⟨an,af,aw,a1,a2⟩,e.symm,by (repeat' (first|exact trivial|exact LeV.same _|exact LeB.same _|exact rfl|exact fun _ _ _=>trivial|refine And.intro ?_ ?_));done⟩)|refine nT_ ?_|refine aS ?_|fail)
      ·have e:=hB (by omega)
       repeat' ((conv=>whnf);first|(refine nv_ (.agg (sR ⟨cn,cf,cw,c1,c2⟩)) (by first|exact hx|fail) ?_)|refine qw z1 ?_|refine qw z3 ?_|(exact ⟨⟨an,af,aw,a1,a2⟩,e.symm,by (repeat' (first|exact trivial|exact LeV.same _|exact LeB.same _|exact rfl|exact fun _ _ _=>trivial|refine And.intro ?_ ?_));done⟩)|refine nT_ ?_|refine aS ?_|fail)
    rintro b rfl
    rw [← h0n] at hta htb
    generalize wv a c=b at *
    skip
    refine rA (β:=Unit) (fun _=>{sl:=[(0,.t FL),(1,.t (.slice 15 (p.map sE))),(2,.t (.slice 15 (q.map sE))),(11,.t (.bool true)),(14,.t (.slice 5 (av.map sI))),(16,.t (.slice 5 (cs.map sI))),(18,.t (.bool ag)),(19,.t (I i)),(21,.ptr 21 0)],bx:=[(21,.d 5 (sR (uw p q a c)))]}) (fun _=>True) ?_ ?_
    ·rw [← h0n] at hav
     clear hsv inv hse
     generalize uw p q a c=w at *
     obtain ⟨bn,bf,bw,b1,b2⟩:=b
     obtain ⟨an,af,aw,a1,a2⟩:=a
     dsimp only at hav hta htb
     cases ht1:tE p bn with
     |false=>
      rw [ht1] at hta hav
      have hav:w=⟨bn,bf,bw,b1,b2⟩:=hav
      subst hav
      repeat' ((conv=>whnf);first|refine rE _ (hta) ?_|(exact ⟨(),trivial,by (repeat' (first|exact trivial|exact LeV.same _|exact LeB.same _|exact rfl|exact fun _ _ _=>trivial|refine And.intro ?_ ?_));done⟩)|refine nT_ ?_|refine aS ?_|fail)
     |true=>
      rw [ht1] at hta hav
      cases ht2:tE q bn with
      |false=>
       rw [ht2] at htb hav
       have hav:w=⟨bn,bf,bw,b1,b2⟩:=hav
       subst hav
       repeat' ((conv=>whnf);first|refine rE _ (hta) ?_|refine rE _ (htb) ?_|(exact ⟨(),trivial,by (repeat' (first|exact trivial|exact LeV.same _|exact LeB.same _|exact rfl|exact fun _ _ _=>trivial|refine And.intro ?_ ?_));done⟩)|refine nT_ ?_|refine aS ?_|fail)
      |true=>
       rw [ht2] at htb hav
       have hav:w=⟨bn,bf,bw,a1,a2⟩:=hav
       subst hav
       repeat' ((conv=>whnf);first|refine rE _ (hta) ?_|refine rE _ (htb) ?_|(refine nv_ (.agg (sR ⟨an,af,aw,a1,a2⟩)) (by first|exact hy|fail) ?_)|(exact ⟨(),trivial,by (repeat' (first|exact trivial|exact LeV.same _|exact LeB.same _|exact rfl|exact fun _ _ _=>trivial|refine And.intro ?_ ?_));done⟩)|refine nT_ ?_|refine aS ?_|fail)
    rintro _ _
    clear hta htb hav h0n hse
    have hcl:(sR (uw p q a c)).length=5:=rfl
    change DCalls _ _ [.agg (sR (uw p q a c)),.agg (sR c)] _ at hsv
    generalize uw p q a c=w at *
    cases ag with
    |false=>repeat' ((conv=>whnf);first|(exact ⟨(i+1,false),inv,hmu,by (repeat' (first|exact trivial|exact LeV.same _|exact rfl|exact fun _ _ _=>trivial|exact lI|refine And.intro ?_ ?_));done⟩)|fail)
    |true=>
     rw [Bool.true_and] at inv
     repeat' ((conv=>whnf);first|(refine nv_ (.agg (sR c)) (by first|exact hx|fail) ?_)|refine rE _ (hsv) ?_|(exact ⟨(i+1,same),inv,hmu,by (repeat' (first|exact trivial|exact LeV.same _|exact rfl|exact fun _ _ _=>trivial|exact lI|refine And.intro ?_ ?_));done⟩)|refine nT_ ?_|refine aS ?_|fail)
  ·have hlt: ¬(i:Int)<((cs.map sI).length:Int):=by omega
   rw [List.take_of_length_le h] at hag
   repeat' ((conv=>whnf);first|refine qu hlt ?_|(exact ⟨(),trivial,by (repeat' (first|(exact leB hag.symm)|exact trivial|exact LeV.same _|exact rfl|exact fun _ _ _=>trivial|refine And.intro ?_ ?_));done⟩)|refine aS ?_|fail)
 rintro _ _
 clear hfind htp htq
 generalize cs.all (uM p q av)=ag at *
 by_cases hpb:pb=0
 ·have e:=hboth.1 hpb
  subst e
  repeat' ((conv=>whnf);first|exact trivial|refine rE _ (a4) ?_|refine qx hpb ?_|refine nb_ true rfl ?_|refine rb1 ?_|(refine And.intro (by first|((simp only [List.length_map];omega);done)|fail) ?_)|refine aS ?_|fail)
 ·have e:ag=false:=by
   cases ag with
   |false=>rfl
   |true=>exact absurd (hboth.2 rfl) hpb
  subst e
  repeat' ((conv=>whnf);first|exact trivial|refine rE _ (a4) ?_|refine qw hpb ?_|refine nb_ true rfl ?_|refine rb1 ?_|(refine And.intro (by first|((simp only [List.length_map];omega);done)|fail) ?_)|refine aS ?_|fail)
end Go.TY
end
