/-
  slices.BinarySearch of texts that rise.
-/
import Derived.Test.YtgloinighjdhlaaGreatLOrder
import Derived.Test.YtgloinighjdhlaaGreatAmDeleg2
set_option linter.all false
set_option linter.unusedVariables false
set_option linter.unusedSimpArgs false
set_option linter.unusedSectionVars false
set_option maxRecDepth 100000
set_option maxHeartbeats 2000000
namespace Go.Proofs.YtgloinighjdhlaaGreat
open Go.Proofs.YtgloinighjdhlaaGreat.Am
attribute [local irreducible] W WO WE WQ WD Tr.get Tr.set
theorem cJ (a:List Nat) (s:St):(lim prog).call Dw [.s a] s=some (.b false,s):=by
 refine fn_W KP rfl rfl ?_
 have e1:(a≠a)=False:=by simp
 simp only [Dx,go_sem,AD,AA,AC,AB,KB_n,KB_x,Nat.reduceBEq,Nat.reduceAdd,Nat.reduceLT,Nat.reduceLeDiff,Nat.reduceEqDiff,reduceIte,Int.reduceEq,reduceCtorEq,e1]
 exact AP (Over.enter s) rfl rfl
theorem cK (a:List Nat) (s:St):(lim prog).call C7 [.s a] s=some (.b false,s):=by
 refine fn_W Ij rfl rfl ?_
 have e1:(a≠a)=False:=by simp
 simp only [DD,go_sem,AD,AA,AC,AB,KB_n,KB_x,Nat.reduceBEq,Nat.reduceAdd,Nat.reduceLT,Nat.reduceLeDiff,Nat.reduceEqDiff,reduceIte,Int.reduceEq,reduceCtorEq,e1]
 exact AP (Over.enter s) rfl rfl
theorem Tf (a b:List Nat) (s:St):(lim prog).call Fc [.s a,.s b] s=some (.b (ltN a b),s):=by
 refine fn_W LA rfl rfl ?_
 simp only [EI,go_sem,AD,AA,AC,AB,KB_n,KB_x,Nat.reduceBEq,Nat.reduceAdd,Nat.reduceLT,Nat.reduceLeDiff,Nat.reduceEqDiff,reduceIte,Int.reduceEq,reduceCtorEq,cJ]
 exact AP (Over.enter s) rfl rfl
def Asc (L:List (List Nat)):Prop:=∀ {i j:Nat} {a b:List Nat},i < j→L[i]? = some a→L[j]? = some b→ltN a b=true
structure Pos (L:List (List Nat)) (x:List Nat) (p:Nat):Prop where
 le:p≤L.length
 lo:∀ {k:Nat} {y:List Nat},k < p→L[k]? = some y→ltN y x=true
 hi:∀ {k:Nat} {y:List Nat},p≤k→L[k]? = some y→ltN y x=false
theorem shr1 (a:Nat):Am.binOp .shr (.i .u64 (a:Int)) (.i .u64 1)=some (.i .u64 ((a / 2:Nat):Int)):=by
 have:((a:Int).fdiv 2)=((a / 2:Nat):Int):=by
  rw [Int.fdiv_eq_ediv_of_nonneg _ (by omega)]; omega
 simp [Am.binOp,IntKind.bits]
 exact this
theorem wrapU {a:Nat} (h:a < 2^64):IntKind.u64.wrap (a:Int)=(a:Int):=by
 have:((a:Int) % 2^64)=(a:Int):=by omega
 simp only [IntKind.wrap,IntKind.signed,IntKind.bits,this]
 rfl
theorem Zs (f:List Nat→Bool):∀ L:List (List Nat),∃ p,p≤L.length∧(∀ {k:Nat} {y:List Nat},k < p→L[k]? = some y→f y=true)∧∀ {y:List Nat},L[p]? = some y→f y=false
 | []=>⟨0,by simp,fun h=>by omega,fun h=>by simp at h⟩
 | a :: L=>by
   cases ha:f a with
   | false=>exact ⟨0,by simp,fun h=>by omega,fun h=>by simp only [List.getElem?_cons_zero,Option.some.injEq] at h; rw [← h]; exact ha⟩
   | true =>
     obtain ⟨p,h1,h2,h3⟩:=Zs f L
     refine ⟨p+1,by simp; omega,fun {k y} hk hy=>?_,fun h=>h3 (by simpa using h)⟩
     cases k with
     | zero=>simp only [List.getElem?_cons_zero,Option.some.injEq] at hy; rw [← hy]; exact ha
     | succ k=>exact h2 (k:=k) (by omega) (by simpa using hy)
theorem pos_ex {L:List (List Nat)} (hasc:Asc L) (x:List Nat):∃ p,Pos L x p:=by
 obtain ⟨p,h1,h2,h3⟩:=Zs (fun y=>ltN y x) L
 refine ⟨p,h1,fun hk hy=>h2 hk hy,@fun k y hk hy=>?_⟩
 by_cases hkp:k=p
 · subst hkp; exact h3 hy
 · have hlt:k < L.length:=(List.getElem?_eq_some_iff.1 hy).1
   have hpk:p < k:=by omega
   obtain ⟨z,hz⟩:∃ z,L[p]? = some z:=⟨_,List.getElem?_eq_getElem (show p < L.length by omega)⟩
   have hzy:=hasc hpk hz hy
   rw [Bool.eq_false_iff]
   intro hyx
   have:=Ka hzy hyx
   rw [h3 hz] at this
   cases this
theorem Oc (L:List (List Nat)) (x:List Nat) (hasc:Asc L) (hl:L.length < 2^62) (s:St):∃ p,Pos L x p∧(lim prog).call BL [tx L,.s x] s=some (.tup [.i .i64 (p:Nat),.b (decide (L[p]? = some x))],s):=by
 have hex:∃ p,Pos L x p:=pos_ex hasc x
 obtain ⟨p,hp⟩:=hex
 refine ⟨p,hp,fn_W Eg rfl rfl ?_⟩
 simp only [BO,go_sem,AD,AA,AC,AB,KB_n,KB_x,Nat.reduceBEq,Nat.reduceAdd,Nat.reduceLT,Nat.reduceLeDiff,Nat.reduceEqDiff,reduceIte,Int.reduceEq,reduceCtorEq,List.length_map]
 refine Br (fun n e q=>q=s.enter∧∃ i j:Nat,i+n=j∧i≤p∧p≤j∧j≤L.length∧e.get 0=tx L∧e.get 1=.s x∧e.get 6=.i .i64 (L.length:Nat)∧e.get 7=.i .i64 (i:Nat)∧e.get 8=.i .i64 (j:Nat)) ?_ L.length _ _ ?_
 · rintro n e q ⟨rfl,i,j,hij,hip,hpj,hj,g0,g1,g6,g7,g8⟩
   by_cases h:i < j
   · have e1:((i:Int) < (j:Int))=True:=eq_true (by omega)
     have hs1:IntKind.i64.wrap ((i:Int)+(j:Int))=((i+j:Nat):Int):=by
      rw [show (i:Int)+(j:Int)=((i+j:Nat):Int) by omega]; exact FG (by omega)
     have hs2:=wrapU (show i+j < 2^64 by omega)
     have hs3:=FG (show (i+j) / 2 < 2^63 by omega)
     obtain ⟨m,hm⟩:∃ m,(i+j) / 2=m:=⟨_,rfl⟩
     rw [hm] at hs3
     obtain ⟨y,hy⟩:∃ y,L[m]? = some y:=⟨_,List.getElem?_eq_getElem (by omega)⟩
     have hy2:(L.map AV.s)[m]? = some (.s y):=by rw [List.getElem?_map,hy]; rfl
     have hw1:=Aj (show m+1 < 2^63 by omega)
     have hsh:=shr1 (i+j)
     rw [hm] at hsh
     cases hlt:ltN y x with
     | true =>
       have:m < p:=by
        refine Nat.lt_of_not_le fun hh=>?_
        have:=hp.hi hh hy
        rw [hlt] at this; cases this
       simp only [go_sem,AD,AA,AC,AB,KB_n,KB_x,Nat.reduceBEq,Nat.reduceAdd,Nat.reduceLT,Nat.reduceLeDiff,Nat.reduceEqDiff,reduceIte,Int.reduceEq,reduceCtorEq,g0,g1,g6,g7,g8,e1,hs1,hs2,hsh,hs3,AH,hy2,CN,Dm,Tf,hlt,hw1]
       exact ⟨j - (m+1),by omega,m+1,j,by omega,by omega,by omega,hj,rfl,rfl⟩
     | false =>
       have:p≤m:=by
        refine Nat.le_of_not_lt fun hh=>?_
        have:=hp.lo hh hy
        rw [hlt] at this; cases this
       simp only [go_sem,AD,AA,AC,AB,KB_n,KB_x,Nat.reduceBEq,Nat.reduceAdd,Nat.reduceLT,Nat.reduceLeDiff,Nat.reduceEqDiff,reduceIte,Int.reduceEq,reduceCtorEq,g0,g1,g6,g7,g8,e1,hs1,hs2,hsh,hs3,AH,hy2,CN,Dm,Tf,hlt]
       exact ⟨m - i,by omega,i,m,by omega,by omega,by omega,by omega,rfl,rfl⟩
   · have e1:((i:Int) < (j:Int))=False:=eq_false (by omega)
     obtain rfl:i=p:=by omega
     have hbr:∀ b,KR s [.id,.id] (.tup [.i .i64 (i:Nat),.b b]) (some ([.i .i64 (i:Nat),.b b],s.enter)):=fun b=>AP (Over.enter s) rfl rfl
     by_cases h2:i < L.length
     · have e2:((i:Int) < (L.length:Int))=True:=eq_true (by omega)
       obtain ⟨y,hy⟩:∃ y,L[i]? = some y:=⟨_,List.getElem?_eq_getElem h2⟩
       have hy2:(L.map AV.s)[i]? = some (.s y):=by rw [List.getElem?_map,hy]; rfl
       by_cases h3:y=x
       · have e3:(y=x)=True:=by simp [h3]
         rw [decide_eq_true (by rw [hy,h3]:L[i]? = some x)]
         simp only [go_sem,AD,AA,AC,AB,KB_n,KB_x,Nat.reduceBEq,Nat.reduceAdd,Nat.reduceLT,Nat.reduceLeDiff,Nat.reduceEqDiff,reduceIte,Int.reduceEq,reduceCtorEq,g0,g1,g6,g7,g8,e1,e2,AH,hy2,CN,Dm,e3]
         exact hbr _
       · have e3:(y=x)=False:=by simp [h3]
         rw [decide_eq_false (by rw [hy]; simpa using h3:¬ L[i]? = some x)]
         simp only [go_sem,AD,AA,AC,AB,KB_n,KB_x,Nat.reduceBEq,Nat.reduceAdd,Nat.reduceLT,Nat.reduceLeDiff,Nat.reduceEqDiff,reduceIte,Int.reduceEq,reduceCtorEq,g0,g1,g6,g7,g8,e1,e2,AH,hy2,CN,Dm,e3,cK]
         exact hbr _
     · have e2:((i:Int) < (L.length:Int))=False:=eq_false (by omega)
       rw [decide_eq_false (by rw [List.getElem?_eq_none (by omega)]; simp:¬ L[i]? = some x)]
       simp only [go_sem,AD,AA,AC,AB,KB_n,KB_x,Nat.reduceBEq,Nat.reduceAdd,Nat.reduceLT,Nat.reduceLeDiff,Nat.reduceEqDiff,reduceIte,Int.reduceEq,reduceCtorEq,g0,g1,g6,g7,g8,e1,e2]
       exact hbr _
 · simp only [go_sem,AD,AA,AC,AB,KB_n,KB_x,Nat.reduceBEq,Nat.reduceAdd,Nat.reduceLT,Nat.reduceLeDiff,Nat.reduceEqDiff,reduceIte,Int.reduceEq,reduceCtorEq]
   have:=hp.le
   exact ⟨0,L.length,by omega,by omega,by omega,by omega,rfl,rfl⟩
end Go.Proofs.YtgloinighjdhlaaGreat

namespace Go.Proofs.YtgloinighjdhlaaGreat
open Go.Proofs.YtgloinighjdhlaaGreat.Am
theorem NU:∀ (p:Option (List Nat)) (ns:List (List Nat)) (ks:List ND),ns.length=ks.length→Fg p ns ks=true →
    (∀ {i:Nat} {k:ND},ks[i]? = some k→FF k=true)∧(∀ {i:Nat} {s:List Nat},ns[i]? = some s→Fh s=true)∧(∀ q,p=some q→∀ {i:Nat} {s:List Nat},ns[i]? = some s→ltN q s=true)∧Asc ns
 | p,[],[],_,_=>⟨fun h=>by simp at h,fun h=>by simp at h,fun _ _ _ _ h=>by simp at h,fun _ h=>by simp at h⟩
 | p,a::ns,b::ks,hl,h=>by
   simp only [Fg,Bool.and_eq_true] at h
   obtain ⟨h1,h2,h3,h4⟩:=h
   obtain ⟨k1,k2,k3,k4⟩:=NU (some a) ns ks (by simpa using hl) h4
   refine ⟨@fun i k hk=>?_,@fun i s hs=>?_,fun q hq=>@fun i s hs=>?_,@fun i j x y hij hx hy=>?_⟩
   · cases i with
     | zero=>simp only [List.getElem?_cons_zero,Option.some.injEq] at hk; rw [← hk]; exact h3
     | succ i=>exact k1 (i:=i) (by simpa using hk)
   · cases i with
     | zero=>simp only [List.getElem?_cons_zero,Option.some.injEq] at hs; rw [← hs]; exact h1
     | succ i=>exact k2 (i:=i) (by simpa using hs)
   · subst hq
     have h2:ltN q a=true:=h2
     cases i with
     | zero=>simp only [List.getElem?_cons_zero,Option.some.injEq] at hs; rw [← hs]; exact h2
     | succ i=>exact Ka h2 (k3 a rfl (i:=i) (by simpa using hs))
   · cases j with
     | zero=>omega
     | succ j =>
       have hy:ns[j]? = some y:=by simpa using hy
       cases i with
       | zero=>simp only [List.getElem?_cons_zero,Option.some.injEq] at hx; rw [← hx]; exact k3 a rfl hy
       | succ i=>exact k4 (i:=i) (j:=j) (by omega) (by simpa using hx) hy
 | _,[],_::_,hl,_=>by simp at hl
 | _,_::_,[],hl,_=>by simp at hl
structure WellD (n:ND):Prop where
 len:n.names.length=n.kids.length
 kid:∀ {i:Nat} {k:ND},n.kids[i]? = some k→FF k=true
 name:∀ {i:Nat} {s:List Nat},n.names[i]? = some s→Fh s=true
 asc:Asc n.names
theorem W8 {n:ND} (h:FF n=true):WellD n:=by
 rw [MG] at h
 split at h
 · simp only [Bool.and_eq_true,decide_eq_true_eq] at h
   obtain ⟨h1,h2,_⟩:=h
   have h2:n.kids=[]:=List.length_eq_zero_iff.1 h2
   exact ⟨by rw [h1,h2]; rfl,fun h=>by rw [h2] at h; simp at h,fun h=>by rw [h1] at h; simp at h,fun _ h=>by rw [h1] at h; simp at h⟩
 · split at h
   · simp only [Bool.and_eq_true,decide_eq_true_eq] at h
     obtain ⟨_,h2,h3⟩:=h
     obtain ⟨k1,k2,_,k4⟩:=NU none _ _ h2 h3
     exact ⟨h2,k1,k2,k4⟩
   · cases h
def noN:ND:=.mk 0 [] [] []
def kidN (n:ND) (s:List Nat):Option ND:=if n.kind=2 then match n.names.findIdx? (·==s) with
 | some i=>n.kids[i]?
 | none=>none else none
def EY:ND→List (List Nat)→Option ND
 | n,[]=>some n
 | n,s::p=>match kidN n s with
   | some k=>EY k p
   | none=>none
theorem NV:∀ a:List Nat,ltN a a=false
 | []=>rfl
 | c::a=>by
   have:Nat.blt c c=false:=by rw [Bool.eq_false_iff]; intro h; rw [Nat.blt_eq] at h; omega
   simp only [ltN,this,NV a,Bool.and_false,Bool.or_self]
theorem W9 {L:List (List Nat)} (hasc:Asc L) {x:List Nat} {p:Nat} (hp:Pos L x p):L.findIdx? (·==x)=if L[p]? = some x then some p else none:=by
 by_cases h:L[p]? = some x
 · rw [if_pos h,List.findIdx?_eq_some_iff_getElem]
   obtain ⟨h1,h2⟩:=List.getElem?_eq_some_iff.1 h
   refine ⟨h1,by simp [h2],fun j hj=>?_⟩
   have hlt:=hp.lo hj (List.getElem?_eq_getElem (show j < L.length by omega))
   simp only [beq_iff_eq]
   intro he
   rw [he,NV] at hlt
   cases hlt
 · rw [if_neg h,List.findIdx?_eq_none_iff]
   intro y hy
   obtain ⟨j,hj,rfl⟩:=List.mem_iff_getElem.1 hy
   have hg:=List.getElem?_eq_getElem hj
   simp only [beq_eq_false_iff_ne,ne_eq]
   intro he
   rw [he] at hg
   by_cases hjp:j < p
   · have:=hp.lo hjp hg
     rw [NV] at this; cases this
   · by_cases hjp2:j=p
     · subst hjp2; exact h hg
     · have hpj:p < j:=by omega
       obtain ⟨z,hz⟩:∃ z,L[p]? = some z:=⟨_,List.getElem?_eq_getElem (show p < L.length by omega)⟩
       have h1:=hasc hpj hz hg
       have h2:=hp.hi (Nat.le_refl _) hz
       rw [h1] at h2; cases h2

attribute [local irreducible] W WO WE WQ WD Tr.get Tr.set
def GZ (o:Option ND):ND:=o.getD noN
theorem cL (n:ND) (ho:n.Ok) (hwl:FF n=true) (pl:List (List Nat)) (hl:pl.length < 2^62) (s:St) (hw:Wf s) :
    (lim prog).call Ih [.agg n.cells,tx pl] s=some (.tup [.agg (GZ (EY n pl)).cells,.b (EY n pl).isSome],s):=by
 refine fn_W Qo rfl rfl ?_
 have H0:=(Hp.begin hw).new (.cells 37 n.cells)
 generalize hq:s.enter.new (.cells 37 n.cells)=q at H0
 generalize hm:s.enter.nb=m at H0
 have H1:=H0.new (.cells 37 [.i .u8 0,.s [],.nsl,.nsl])
 generalize hq1:q.new (.cells 37 [.i .u8 0,.s [],.nsl,.nsl])=q1 at H1
 generalize hm1:q.nb=m1 at H1
 have hz0:wkZ Es.cin [.agg n.cells,tx pl]=[.agg n.cells,tx pl]:=by simp [Es,wkZ,wk,ND.cells]
 rw [hz0]
 simp only [Es,go_sem,AD,AA,AC,AB,KB_n,KB_x,Nat.reduceBEq,Nat.reduceAdd,Nat.reduceLT,Nat.reduceLeDiff,Nat.reduceEqDiff,reduceIte,Int.reduceEq,reduceCtorEq,Ar,hq,hm,hq1,hm1,List.length_map]
 refine Br (fun x e q=>∃ (i:Nat) (c:ND),i+x=pl.length∧c.Ok∧FF c=true∧EY n pl=EY c (pl.drop i)∧Hp s q s.en [] [(m1,.cells 37 [.i .u8 0,.s [],.nsl,.nsl]),(m,.cells 37 c.cells)] ∧
  e.get 2=.p m 0∧e.get 4=.p m1 0∧e.get 10=tx pl∧e.get 11=.i .i64 (pl.length:Nat)∧e.get 12=.i .i64 (i:Nat)) ?_ pl.length _ _ ?_
 · rintro x e q' ⟨i,c,hi,hco,hcw,hf,H,g2,g4,g10,g11,g12⟩
   have l0:=H.ld 1 (off:=0) (v:=.i .u8 (c.kind:Nat)) rfl rfl
   have l2:=H.ld 1 (off:=2) (v:=tx c.names) rfl rfl
   have l3:=H.ld 1 (off:=3) (v:=.ws false 4 (c.kids.map ND.av)) rfl rfl
   by_cases h:i < pl.length
   · have e1:((i:Int) < (pl.length:Int))=True:=eq_true (by omega)
     obtain ⟨y,hy⟩:∃ y,pl[i]? = some y:=⟨_,List.getElem?_eq_getElem h⟩
     have hy2:(pl.map AV.s)[i]? = some (.s y):=by rw [List.getElem?_map,hy]; rfl
     have hd:pl.drop i=y::pl.drop (i+1):=by
      rw [List.drop_eq_getElem_cons h]
      rw [List.getElem?_eq_getElem h] at hy
      cases hy; rfl
     have hD:=W8 hcw
     obtain ⟨p,hp,hb⟩:=Oc c.names y hD.asc (by have:=hco.names.2; omega) q'
     have hidx:=W9 hD.asc hp
     have hw1:=Aj (show i+1 < 2^63 by omega)
     obtain ⟨q3,d3,H3,_⟩:=H.stw 0 (v:=.agg [.i .u8 0,.s [],.nsl,.nsl]) (m:=4) rfl rfl ⟨rfl,rfl⟩
     have l4:=H3.ldw 0 (m:=4) rfl rfl
     have bad:kidN c y=none→EY n pl=none:=fun hk=>by rw [hf,hd]; simp only [EY,hk]
     have hend:KR s [(.agg [.id,.id,(.sl 1 .id),(.sl 4 (.agg [.id,.id,(.sl 1 .id),(.sl 4 (.agg [.id,.id,(.sl 1 .id),(.sl 4 .id)]))]))]),.id] (.tup [.agg noN.cells,.b false]) (some ([.agg [.i .u8 0,.s [],.nsl,.nsl],.b false],q3)):=AP H3.over rfl rfl
     by_cases c2:c.kind=2
     · have e2:((c.kind:Int)≠2)=False:=by simp only [ne_eq,eq_iff_iff,iff_false]; omega
       by_cases c3:c.names[p]? = some y
       · rw [decide_eq_true c3] at hb
         rw [if_pos c3] at hidx
         have hpl:p < c.names.length:=(List.getElem?_eq_some_iff.1 c3).1
         obtain ⟨k,hk⟩:∃ k,c.kids[p]? = some k:=⟨_,List.getElem?_eq_getElem (by rw [← hD.len]; exact hpl)⟩
         have hkid:kidN c y=some k:=by unfold kidN; rw [if_pos c2,hidx]; exact hk
         have hget:=Hu hk
         obtain ⟨q4,d4,H4,_⟩:=H.stw 1 (v:=.agg k.cells) (m:=4) rfl rfl ⟨Ar k,Pq k⟩
         have hld:ldA q' true 4 (.ep k.cells 0 .shut)=some (.agg k.cells):=rfl
         simp only [go_sem,AD,AA,AC,AB,KB_n,KB_x,Nat.reduceBEq,Nat.reduceAdd,Nat.reduceLT,Nat.reduceLeDiff,Nat.reduceEqDiff,reduceIte,Int.reduceEq,reduceCtorEq,g2,g4,g10,g11,g12,e1,AH,hy2,CN,Dm,l0,l2,l3,hb,e2,hget,hld,AX,d4,hw1,Nat.zero_add]
         exact ⟨x - 1,by omega,i+1,k,by omega,hco.kids.1 k (List.mem_of_getElem? hk),hD.kid hk,by rw [hf,hd]; simp only [EY,hkid],H4,rfl⟩
       · rw [decide_eq_false c3] at hb
         rw [if_neg c3] at hidx
         have hkid:kidN c y=none:=by unfold kidN; rw [if_pos c2,hidx]
         rw [bad hkid]
         simp only [go_sem,AD,AA,AC,AB,KB_n,KB_x,Nat.reduceBEq,Nat.reduceAdd,Nat.reduceLT,Nat.reduceLeDiff,Nat.reduceEqDiff,reduceIte,Int.reduceEq,reduceCtorEq,g2,g4,g10,g11,g12,e1,AH,hy2,CN,Dm,l0,l2,l3,hb,e2,d3,l4,Nat.zero_add]
         exact hend
     · have e2:((c.kind:Int)≠2)=True:=by simp only [ne_eq,eq_iff_iff,iff_true]; omega
       have hkid:kidN c y=none:=by unfold kidN; rw [if_neg c2]
       rw [bad hkid]
       simp only [go_sem,AD,AA,AC,AB,KB_n,KB_x,Nat.reduceBEq,Nat.reduceAdd,Nat.reduceLT,Nat.reduceLeDiff,Nat.reduceEqDiff,reduceIte,Int.reduceEq,reduceCtorEq,g2,g4,g10,g11,g12,e1,AH,hy2,CN,Dm,l0,l2,l3,hb,e2,d3,l4,Nat.zero_add]
       exact hend
   · have e1:((i:Int) < (pl.length:Int))=False:=eq_false (by omega)
     rw [List.drop_of_length_le (by omega)] at hf
     rw [hf]
     have l4:=H.ldw 1 (m:=4) rfl rfl
     obtain ⟨q4,d4,H4,_⟩:=H.stw 0 (v:=.agg c.cells) (m:=4) rfl rfl ⟨Ar c,Pq c⟩
     have l5:=H4.ldw 0 (m:=4) rfl rfl
     simp only [go_sem,AD,AA,AC,AB,KB_n,KB_x,Nat.reduceBEq,Nat.reduceAdd,Nat.reduceLT,Nat.reduceLeDiff,Nat.reduceEqDiff,reduceIte,Int.reduceEq,reduceCtorEq,g2,g4,g10,g11,g12,e1,l4,AX,NT,d4,l5]
     refine AP H4.over ?_ ?_
     · have:=SO c
       rw [ND.av_eq] at this
       simp only [CZ,AV.refs.eq_8,AV.refs.go,this]
       rfl
     · have hwk:wkZ [(.agg [.id,.id,(.sl 1 .id),(.sl 4 (.agg [.id,.id,(.sl 1 .id),(.sl 4 (.agg [.id,.id,(.sl 1 .id),(.sl 4 .id)]))]))]),.id] [.agg c.cells,.b true]=[.agg c.cells,.b true]:=by simp [wkZ,wk,ND.cells]
       rw [hwk]
       rfl
 · simp only [go_sem,AD,AA,AC,AB,KB_n,KB_x,Nat.reduceBEq,Nat.reduceAdd,Nat.reduceLT,Nat.reduceLeDiff,Nat.reduceEqDiff,reduceIte,Int.reduceEq,reduceCtorEq]
   exact ⟨0,n,by omega,ho,hwl,rfl,H1,rfl⟩
end Go.Proofs.YtgloinighjdhlaaGreat

set_option maxHeartbeats 4000000
namespace Go.Proofs.YtgloinighjdhlaaGreat
open Go.Proofs.YtgloinighjdhlaaGreat.Am
attribute [local irreducible] W WO WE WQ WD Tr.get Tr.set
abbrev ctN:CT:=.agg [.id,.id,(.sl 1 .id),(.sl 4 (.agg [.id,.id,(.sl 1 .id),(.sl 4 (.agg [.id,.id,(.sl 1 .id),(.sl 4 .id)]))]))]
theorem Zr:noN.Ok:=.mk (by decide) ⟨by simp,by simp⟩ (by decide) (fun _ h=>by simp at h) (by decide) (by decide) (fun _ h=>by simp at h)
theorem Pm {n:ND} (ho:n.Ok):∀ (pl:List (List Nat)),(GZ (EY n pl)).Ok
 | []=>ho
 | y :: pl=>by
   unfold EY
   cases hk:kidN n y with
   | none=>exact Zr
   | some k =>
     simp only
     have hm:k∈n.kids:=by
      unfold kidN at hk
      split at hk
      · split at hk
        · exact List.mem_of_getElem? hk
        · cases hk
      · cases hk
     exact Pm (ho.kids.1 k hm) pl
theorem KR_N {s q:St} (ov:Over s q) (x:ND) (b:Bool):KR s [ctN,.id] (.tup [.agg x.cells,.b b]) (some ([.agg x.cells,.b b],q)):=by
 refine AP ov ?_ ?_
 · have:=SO x
   rw [ND.av_eq] at this
   simp only [CZ,AV.refs,AV.refs.go,this]
   simp only [AV.refs] at this
   rw [this]; rfl
 · rfl
theorem UU (n:ND) (ho:n.Ok) (hwl:FF n=true) (pl:List (List Nat)) (hl:pl.length < 2^62) (s:St) (hw:Wf s) :
    (lim prog).call K9 [.agg n.cells,tx pl] s=some (.tup [.agg (GZ (EY n pl)).cells,.b (EY n pl).isSome],s):=by
 refine fn_W UH rfl rfl ?_
 have hz0:wkZ GH.cin [.agg n.cells,tx pl]=[.agg n.cells,tx pl]:=by simp [GH,wkZ,wk,ND.cells]
 rw [hz0]
 have e0:s.enter.nb=s.nb:=rfl
 have H1:=((Hp.begin hw).new (.cells 37 n.cells)).new (.cells 37 [.i .u8 0,.s [],.nsl,.nsl])
 have e1:(s.enter.new (.cells 37 n.cells)).nb=s.nb+1:=rfl
 obtain ⟨q1,hq1⟩:∃ q1,(s.enter.new (.cells 37 n.cells)).new (.cells 37 [.i .u8 0,.s [],.nsl,.nsl])=q1:=⟨_,rfl⟩
 rw [hq1,e1,e0] at H1
 have lw:=H1.ldw (m:=4) 1 rfl rfl
 have hwf:=W7 n ho q1 H1.wf
 rw [hwl] at hwf
 have hf:=cL n ho hwl pl hl q1 H1.wf
 obtain ⟨x,hx⟩:∃ x,GZ (EY n pl)=x:=⟨_,rfl⟩
 have hxo:=Pm ho pl
 rw [hx] at hf hxo
 obtain ⟨q2,d2,H2,n2⟩:=H1.adp (T:=37) (m:=4) (z:=[.i .u8 0,.s [],.nsl,.nsl]) (v:=.agg x.cells) rfl ⟨Ar x,Pq x⟩
 have lx:=H2.ldw (m:=4) 0 rfl rfl
 have ho:=own_ok x hxo q2 H2.wf
 obtain ⟨q3,d3,H3,n3,_⟩:=H2.stw 1 (m:=4) (v:=.agg x.cells) rfl rfl ⟨Ar x,Pq x⟩
 have lr:=H3.ldw (m:=4) 1 rfl rfl
 rw [hx]
 simp only [Cd] at lx lr
 simp only [tx] at hf
 simp only [GH,go_sem,AD,AA,AC,AB,KB_n,KB_x,Nat.reduceBEq,Nat.reduceAdd,Nat.reduceLT,Nat.reduceLeDiff,Nat.reduceEqDiff,reduceIte,Int.reduceEq,reduceCtorEq,Ar,tx,hq1,e1,e0,lw,hwf,hf,d2,lx,ho,d3,lr,AX,NT]
 exact KR_N H3.over x _

def SL (P:List Nat→Bool) (L:List (List Nat)):Int:=match L.findIdx? P with
 | some i=>(i:Int)
 | none => -1
theorem W0 (P:List Nat→Bool) (L:List (List Nat)):(0≤SL P L)=(L.any P=true):=by
 unfold SL
 cases h:L.findIdx? P with
 | none =>
   rw [List.findIdx?_eq_none_iff] at h
   simp only [eq_iff_iff]
   constructor
   · intro hh; omega
   · intro hh
     obtain ⟨x,hx,hp⟩:=List.any_eq_true.1 hh
     rw [h x hx] at hp; cases hp
 | some i =>
   rw [List.findIdx?_eq_some_iff_getElem] at h
   obtain ⟨hi,hp,_⟩:=h
   simp only [eq_iff_iff]
   constructor
   · intro _; exact List.any_eq_true.2 ⟨_,List.getElem_mem hi,hp⟩
   · intro _; omega
theorem Pn (L:List (List Nat)) (hL:L.length < 2^62) (g:Nat) (caps:List AV) (P:List Nat→Bool) (s:St) (hw:Wf s) (hP:∀ z∈L,DZ (lim prog) (.fn g caps) [.s z] s.enter=some (.b (P z),s.enter)) :
    (lim prog).call B9 [tx L,.fn g caps] s=some (.i .i64 (SL P L),s):=by
 refine fn_W FJ rfl rfl ?_
 have hz0:wkZ Ap.cin [tx L,.fn g caps]=[tx L,.fn g caps]:=by simp [Ap,wkZ,wk,tx,QH]
 rw [hz0]
 simp only [Ap,go_sem,AD,AA,AC,AB,KB_n,KB_x,Nat.reduceBEq,Nat.reduceAdd,Nat.reduceLT,Nat.reduceLeDiff,Nat.reduceEqDiff,reduceIte,Int.reduceEq,reduceCtorEq,tx,List.length_map]
 refine Br (fun x e q=>∃ i:Nat,i+x=L.length∧q=s.enter∧(∀ j,j < i→∀ y,L[j]? = some y→P y=false)∧e.get 0=tx L∧e.get 1=.fn g caps∧e.get 7=.i .i64 (L.length:Nat)∧e.get 8=.i .i64 (i:Nat)) ?_ L.length _ _ ?_
 · rintro x e q ⟨i,hi,rfl,hb,g0,g1,g7,g8⟩
   by_cases h:i < L.length
   · have h1:((i:Int) < (L.length:Int))=True:=eq_true (by omega)
     obtain ⟨z,hz⟩:∃ z,L[i]? = some z:=⟨_,List.getElem?_eq_getElem h⟩
     have hz2:(L.map AV.s)[i]? = some (.s z):=by rw [List.getElem?_map,hz]; rfl
     have hc:=hP z (List.mem_of_getElem? hz)
     have hw1:=Aj (show i+1 < 2^63 by omega)
     cases hp:P z with
     | true =>
       rw [hp] at hc
       have hix:SL P L=(i:Int):=by
        unfold SL
        have:L.findIdx? P=some i:=by
         rw [List.findIdx?_eq_some_iff_getElem]
         rw [List.getElem?_eq_some_iff] at hz
         obtain ⟨h1,hz⟩:=hz
         exact ⟨h1,by rw [hz]; exact hp,fun j hj=>by simpa using hb j hj _ (List.getElem?_eq_getElem (by omega))⟩
        rw [this]
       rw [hix]
       simp only [go_sem,AD,AA,AC,AB,KB_n,KB_x,Nat.reduceBEq,Nat.reduceAdd,Nat.reduceLT,Nat.reduceLeDiff,Nat.reduceEqDiff,reduceIte,Int.reduceEq,reduceCtorEq,g0,g1,g7,g8,tx,h1,AH,hz2,CN,Dm,hc]
       exact AP (Over.enter s) rfl rfl
     | false =>
       rw [hp] at hc
       simp only [go_sem,AD,AA,AC,AB,KB_n,KB_x,Nat.reduceBEq,Nat.reduceAdd,Nat.reduceLT,Nat.reduceLeDiff,Nat.reduceEqDiff,reduceIte,Int.reduceEq,reduceCtorEq,g0,g1,g7,g8,tx,h1,AH,hz2,CN,Dm,hc,hw1]
       refine ⟨x - 1,by omega,i+1,by omega,fun j hj y hy=>?_,rfl⟩
       rcases Nat.lt_or_ge j i with hlt | hge
       · exact hb j hlt y hy
       · obtain rfl:j=i:=by omega
         rw [hz] at hy; cases hy; exact hp
   · have h1:((i:Int) < (L.length:Int))=False:=eq_false (by omega)
     have hix:SL P L = -1:=by
      unfold SL
      have:L.findIdx? P=none:=by
       rw [List.findIdx?_eq_none_iff]
       intro z hz
       obtain ⟨j,hj⟩:=List.mem_iff_getElem?.1 hz
       exact hb j (by rw [List.getElem?_eq_some_iff] at hj; have:=hj.1; omega) z hj
      rw [this]
     rw [hix]
     simp only [go_sem,AD,AA,AC,AB,KB_n,KB_x,Nat.reduceBEq,Nat.reduceAdd,Nat.reduceLT,Nat.reduceLeDiff,Nat.reduceEqDiff,reduceIte,Int.reduceEq,reduceCtorEq,g0,g1,g7,g8,h1]
     exact AP (Over.enter s) rfl rfl
 · simp only [go_sem,AD,AA,AC,AB,KB_n,KB_x,Nat.reduceBEq,Nat.reduceAdd,Nat.reduceLT,Nat.reduceLeDiff,Nat.reduceEqDiff,reduceIte,Int.reduceEq,reduceCtorEq]
   exact ⟨0,by omega,fun j hj=>by omega,rfl⟩
theorem IA (L:List (List Nat)) (hL:L.length < 2^62) (g:Nat) (caps:List AV) (P:List Nat→Bool) (s:St) (hw:Wf s) (hP:∀ z∈L,DZ (lim prog) (.fn g caps) [.s z] s.enter.enter=some (.b (P z),s.enter.enter)) :
    (lim prog).call BM [tx L,.fn g caps] s=some (.b (L.any P),s):=by
 refine fn_W Eh rfl rfl ?_
 have hz0:wkZ Ai.cin [tx L,.fn g caps]=[tx L,.fn g caps]:=by simp [Ai,wkZ,wk,tx,QH]
 have h1:=Pn L hL g caps P s.enter hw.enter hP
 rw [hz0]
 unfold tx at h1
 simp only [Ai,go_sem,AD,AA,AC,AB,KB_n,KB_x,Nat.reduceBEq,Nat.reduceAdd,Nat.reduceLT,Nat.reduceLeDiff,Nat.reduceEqDiff,reduceIte,Int.reduceEq,reduceCtorEq,h1,tx,W0]
 exact AP (Over.enter s) rfl (by cases h:L.any P<;>rfl)
theorem W3 (L:List Int) (hL:L.length < 2^62) (k:Int) {a:AV} (ha:Ca 1 a (L.map iv)) (s:St) (hw:Wf s) :
    (lim prog).call Dv [a,.i .i64 k] s=some (.i .i64 (PY (fun z=>decide (k=z)) L),s):=by
 refine fn_W IK rfl rfl ?_
 have hz0:wkZ Bi.cin [a,.i .i64 k]=[zx L,.i .i64 k]:=by simp [Bi,wkZ,wk,ha.wk (Rl L),zx]
 rw [hz0]
 simp only [Bi,go_sem,AD,AA,AC,AB,KB_n,KB_x,Nat.reduceBEq,Nat.reduceAdd,Nat.reduceLT,Nat.reduceLeDiff,Nat.reduceEqDiff,reduceIte,Int.reduceEq,reduceCtorEq,zx,List.length_map]
 refine Br (fun x e q=>∃ i:Nat,i+x=L.length∧q=s.enter∧(∀ j,j < i→∀ y,L[j]? = some y→decide (k=y)=false)∧e.get 0=zx L∧e.get 1=.i .i64 k∧e.get 7=.i .i64 (L.length:Nat)∧e.get 8=.i .i64 (i:Nat)) ?_ L.length _ _ ?_
 · rintro x e q ⟨i,hi,rfl,hb,g0,g1,g7,g8⟩
   by_cases h:i < L.length
   · have h1:((i:Int) < (L.length:Int))=True:=eq_true (by omega)
     obtain ⟨z,hz⟩:∃ z,L[i]? = some z:=⟨_,List.getElem?_eq_getElem h⟩
     have hz2:=M7 hz
     have hw1:=Aj (show i+1 < 2^63 by omega)
     by_cases hp:k=z
     · have e1:(k=z)=True:=by simp [hp]
       rw [PZ hz (by simp [hp]) hb]
       simp only [go_sem,AD,AA,AC,AB,KB_n,KB_x,Nat.reduceBEq,Nat.reduceAdd,Nat.reduceLT,Nat.reduceLeDiff,Nat.reduceEqDiff,reduceIte,Int.reduceEq,reduceCtorEq,g0,g1,g7,g8,zx,h1,AH,hz2,Ee,Dm,e1]
       exact AP (Over.enter s) rfl rfl
     · have e1:(k=z)=False:=by simp [hp]
       simp only [go_sem,AD,AA,AC,AB,KB_n,KB_x,Nat.reduceBEq,Nat.reduceAdd,Nat.reduceLT,Nat.reduceLeDiff,Nat.reduceEqDiff,reduceIte,Int.reduceEq,reduceCtorEq,g0,g1,g7,g8,zx,h1,AH,hz2,Ee,Dm,e1,hw1]
       refine ⟨x - 1,by omega,i+1,by omega,fun j hj y hy=>?_,rfl⟩
       rcases Nat.lt_or_ge j i with hlt | hge
       · exact hb j hlt y hy
       · obtain rfl:j=i:=by omega
         rw [hz] at hy; cases hy; simpa using hp
   · have h1:((i:Int) < (L.length:Int))=False:=eq_false (by omega)
     rw [Pa fun j hj=>hb j (by omega)]
     simp only [go_sem,AD,AA,AC,AB,KB_n,KB_x,Nat.reduceBEq,Nat.reduceAdd,Nat.reduceLT,Nat.reduceLeDiff,Nat.reduceEqDiff,reduceIte,Int.reduceEq,reduceCtorEq,g0,g1,g7,g8,h1]
     exact AP (Over.enter s) rfl rfl
 · simp only [go_sem,AD,AA,AC,AB,KB_n,KB_x,Nat.reduceBEq,Nat.reduceAdd,Nat.reduceLT,Nat.reduceLeDiff,Nat.reduceEqDiff,reduceIte,Int.reduceEq,reduceCtorEq]
   exact ⟨0,by omega,fun j hj=>by omega,rfl,rfl⟩
theorem RC (L:List Int) (hL:L.length < 2^62) (k:Int) {a:AV} (ha:Ca 1 a (L.map iv)) (s:St) (hw:Wf s) :
    (lim prog).call DH [a,.i .i64 k] s=some (.b (decide (k∈L)),s):=by
 refine fn_W Gv rfl rfl ?_
 have hz0:wkZ BS.cin [a,.i .i64 k]=[zx L,.i .i64 k]:=by simp [BS,wkZ,wk,ha.wk (Rl L),zx]
 have h1:=W3 L hL k (a:=zx L) .ws s.enter hw.enter
 rw [hz0]
 unfold zx at h1
 have hany:(L.any (fun z=>decide (k=z))=true)=(k∈L):=by simp [List.any_eq_true]
 simp only [BS,go_sem,AD,AA,AC,AB,KB_n,KB_x,Nat.reduceBEq,Nat.reduceAdd,Nat.reduceLT,Nat.reduceLeDiff,Nat.reduceEqDiff,reduceIte,Int.reduceEq,reduceCtorEq,h1,zx,M6,hany]
 exact AP (Over.enter s) rfl rfl
def FN (f:FT) (m:Nat) (x:List Nat):Bool:=match f.names.findIdx? (·==x) with
 | some i=>match f.kids[i]? with
   | some k=>decide (k∈(Ds f.kids).take m)
   | none=>false
 | none=>false
theorem Td:∀ (p:Option (List Nat)) (L:List (List Nat)),ascN p L=true→Asc L∧∀ q,p=some q→∀ x∈L,ltN q x=true
 | p,[],_=>⟨fun _ h=>by simp at h,fun _ _ x hx=>by simp at hx⟩
 | p,s::ns,h=>by
   simp only [ascN,Bool.and_eq_true] at h
   obtain ⟨h1,h2,h3⟩:=h
   obtain ⟨k1,k2⟩:=Td (some s) ns h3
   refine ⟨fun {i j a b} hij ha hb=>?_,fun q hq x hx=>?_⟩
   · cases j with
     | zero=>omega
     | succ j =>
       simp only [List.getElem?_cons_succ] at hb
       cases i with
       | zero =>
         simp only [List.getElem?_cons_zero,Option.some.injEq] at ha
         subst ha
         exact k2 s rfl b (List.mem_of_getElem? hb)
       | succ i =>
         simp only [List.getElem?_cons_succ] at ha
         exact k1 (by omega) ha hb
   · subst hq
     simp only at h2
     rcases List.mem_cons.1 hx with rfl | hx
     · exact h2
     · exact Ka h2 (k2 s rfl x hx)
theorem Po {f:FT} (h:f.one=true):Asc f.names:=by
 unfold FT.one at h
 simp only [Bool.and_eq_true] at h
 split at h
 · simp only [Bool.and_eq_true] at h
   exact (Td none _ h.2.1).1
 · simp only [Bool.and_eq_true,decide_eq_true_eq,List.length_eq_zero_iff] at h
   rw [h.2.1]
   exact fun _ h=>by simp at h
theorem RD {f:FT} (ho:f.Ok) (h1:f.one=true) {m:Nat} {q:St} (hw:Wf q) {b b2:Nat} (hb:q.box? b=some (.cells 48 f.cells)) (lb:b < q.nb) {a:AV} (ha:Ca 1 a (((Ds f.kids).take m).map iv)) (hb2:q.box? b2=some (.cells 46 [a])) (lb2:b2 < q.nb) (x:List Nat) :
    DZ (lim prog) (.fn Av [.p b 0,.p b2 0]) [.s x] q=some (.b (FN f m x),q):=by
 show (lim prog).call Av [.s x,.p b 0,.p b2 0] q=_
 refine fn_W M3 rfl rfl ?_
 have hz0:wkZ Cz.cin [.s x,.p b 0,.p b2 0]=[.s x,.p b 0,.p b2 0]:=by simp only [Cz,wkZ,wk]
 rw [hz0]
 have ln:=Hs (Over.enter q) (off:=2) (v:=tx f.names) lb hb rfl
 have lk:=Hs (Over.enter q) (off:=3) (v:=zx f.kids) lb hb rfl
 have lr:=Hs (Over.enter q) (off:=0) (v:=a) lb2 hb2 rfl
 obtain ⟨p,hp,hbs⟩:=Oc f.names x (Po h1) (by have:=ho.nlen; omega) q.enter
 have hidx:=W9 (Po h1) hp
 have hnk:=Fi h1
 unfold tx at hbs
 by_cases hx:f.names[p]? = some x
 · rw [decide_eq_true hx] at hbs
   rw [if_pos hx] at hidx
   obtain ⟨k,hk⟩:∃ k,f.kids[p]? = some k:=⟨_,List.getElem?_eq_getElem (by rw [List.getElem?_eq_some_iff] at hx; have:=hx.1; omega)⟩
   have hk2:=M7 hk
   have hci:=RC ((Ds f.kids).take m) (by have:=ho.klen; rw [List.length_take,GR]; omega) k ha q.enter hw.enter
   have hap:FN f m x=decide (k∈(Ds f.kids).take m):=by unfold FN; rw [hidx]; simp only [hk]
   rw [hap]
   have hld:=ha.ld
   have hpu:=ha.pub q.enter
   have hnt:=ha.noTok
   simp only [Cz,go_sem,AD,AA,AC,AB,KB_n,KB_x,Nat.reduceBEq,Nat.reduceAdd,Nat.reduceLT,Nat.reduceLeDiff,Nat.reduceEqDiff,reduceIte,Int.reduceEq,reduceCtorEq,Nat.zero_add,tx,zx,ln,lk,lr,hbs,AH,hk2,Ee,Dm,hld.1,hld.2,hpu,hnt,hci]
   exact AP (Over.enter q) rfl rfl
 · rw [decide_eq_false hx] at hbs
   rw [if_neg hx] at hidx
   have hap:FN f m x=false:=by unfold FN; rw [hidx]
   rw [hap]
   simp only [Cz,go_sem,AD,AA,AC,AB,KB_n,KB_x,Nat.reduceBEq,Nat.reduceAdd,Nat.reduceLT,Nat.reduceLeDiff,Nat.reduceEqDiff,reduceIte,Int.reduceEq,reduceCtorEq,Nat.zero_add,tx,ln,hbs]
   exact AP (Over.enter q) rfl rfl
theorem slc_zx {L:List Int} {m:Nat} (hm:m≤L.length) (q:St):∃ a,Bk q false 1 (.ws false 1 (L.map iv)) none (some (.i .i64 (m:Nat))) none=some (a,q)∧Ca 1 a ((L.take m).map iv):=by
 unfold Bk Cb
 simp only [AH,List.length_map,if_true,Nat.zero_le,hm,and_self,List.drop_zero,Nat.sub_zero]
 split
 · rename_i h
   exact ⟨_,rfl,by rw [h.2,List.take_length]; exact .ws⟩
 · rw [← List.map_take]
   first
    | exact ⟨_,rfl,.ws⟩
    | exact ⟨_,rfl,.inr (.inr (.inr (.inl rfl)))⟩
    | (split<;>first | exact ⟨_,rfl,.ws⟩ | exact ⟨_,rfl,.inr (.inr (.inr (.inl rfl)))⟩ | exact ⟨_,rfl,.inr (.inr (.inl rfl))⟩)
theorem ZB {f:FT} (ho:f.Ok) {m:Nat} (hm:m≤f.kids.length) {s0 q:St} {n:En} {R:List RA} {B:List (Nat×Box)} (H:Hp s0 q n R B) :
    ∃ q' a b b2,(lim prog).call EG [.agg f.cells,.i .i64 (m:Nat)] q=some (.fn Av [.p b 0,.p b2 0],q')∧Hp s0 q' n R ((b2,.cells 46 [a])::(b,.cells 48 f.cells)::B)∧Ca 1 a (((Ds f.kids).take m).map iv):=by
 obtain ⟨r,q',h,b,b2,a,rfl,H',ht⟩:=fn_G (f:=EG) (args:=[.agg f.cells,.i .i64 (m:Nat)]) (s:=q) (Post:=fun r q'=>∃ b b2 a,r=.fn Av [.p b 0,.p b2 0]∧Hp s0 q' n R ((b2,.cells 46 [a])::(b,.cells 48 f.cells)::B)∧Ca 1 a (((Ds f.kids).take m).map iv)) PV rfl rfl (by
  have hz0:wkZ EM.cin [.agg f.cells,.i .i64 (m:Nat)]=[.agg f.cells,.i .i64 (m:Nat)]:=by simp only [EM,wkZ,wk,SC]
  rw [hz0]
  have c6:f.cells.length=6:=rfl
  have H1:=H.enter.new (.cells 48 f.cells)
  obtain ⟨q1,hq1⟩:∃ q1,q.enter.new (.cells 48 f.cells)=q1:=⟨_,rfl⟩
  have e0:q.enter.nb=q.nb:=rfl
  rw [hq1,e0] at H1
  have lk:=H1.ld 0 (off:=3) (v:=zx f.kids) rfl rfl
  have hv:=Qy f.kids q1
  have H2:=(H1.new (.cells 46 [zx f.kids])).setLo (m:=min q1.lo q1.nb) (Nat.le_trans (Nat.min_le_left _ _) H1.lo) (by have:=H1.over.lo; have:=H1.over.nb; omega)
  obtain ⟨q2,hq2⟩:∃ q2,{ q1.new (.cells 46 [zx f.kids]) with lo:=min q1.lo q1.nb }=q2:=⟨_,rfl⟩
  rw [hq2] at H2 hv
  have hbx:=H2.box (i:=0) rfl
  have hs:=Qx (L:=f.kids) (by have:=ho.klen; omega) H2.wf (a:=q1.nb) hbx.1 hbx.2.2
  obtain ⟨a,d3,ta⟩:=slc_zx (L:=Ds f.kids) (m:=m) (by rw [GR]; exact hm) q2
  have H3:=H2.new (.cells 46 [.nsl])
  have tc:=ta.cells
  obtain ⟨q4,d4,H4,n4,_⟩:=H3.st 0 (off:=0) (v:=a) rfl (by simp) ⟨tc.1,tc.2.1⟩
  simp only [zx] at hv hs
  simp only [EM,go_sem,AD,AA,AC,AB,KB_n,KB_x,Nat.reduceBEq,Nat.reduceAdd,Nat.reduceLT,Nat.reduceLeDiff,Nat.reduceEqDiff,reduceIte,Int.reduceEq,reduceCtorEq,Cd,c6,hq1,e0,zx,lk,hv,hs,d3,d4]
  simp only [List.set_cons_zero] at H4
  refine ⟨_,_,rfl,q.nb,q2.nb,a,rfl,?_,ta⟩
  have H5:=H4.sel (List.range R.length) (0::2::(List.range' 3 B.length)) List.nodup_range (by
   refine List.nodup_cons.2 ⟨by simp,List.nodup_cons.2 ⟨by simp,List.nodup_range'⟩⟩)
  rw [FS] at H5
  have hpk:∀ (x y z:Nat×Box),pick (x::y::z::B) (0::2::List.range' 3 B.length)=x::z::B:=fun x y z=>by
   have:pick (x::y::z::B) (List.range' 3 B.length)=B:=by
    have h1:List.range' 3 B.length=(((List.range B.length).map (·+1)).map (·+1)).map (·+1):=by
     apply List.ext_getElem<;>simp; omega
    rw [h1,Fp,Fp,Fp,FS]
   simp only [pick,List.getElem?_cons_zero,List.getElem?_cons_succ,this]
  rw [hpk] at H5
  exact H.leaveR (n1:=q.en) (v:=CZ [AV.fn Av [.p q.nb 0,.p q2.nb 0]]) H5 rfl)
 exact ⟨q',a,b,b2,h,H',ht⟩
def CH (f:FT) (L:List (List Nat)):Bool :=
 if f.rest=1 then !(L.any fun x=>!FN f f.names.length x) else if f.rest=2 then L.any fun x=>!FN f f.beside.toNat x else true
theorem SM {f:FT} (ho:f.Ok) (h1:f.one=true) {m:Nat} {q:St} (hw:Wf q) {b b2 b3:Nat} (hb:q.box? b=some (.cells 48 f.cells)) (lb:b < q.nb) {a:AV} (ha:Ca 1 a (((Ds f.kids).take m).map iv)) (hb2:q.box? b2=some (.cells 46 [a])) (lb2:b2 < q.nb) (hb3:q.box? b3=some (.cells 55 [.fn Av [.p b 0,.p b2 0]])) (lb3:b3 < q.nb) (x:List Nat) :
    DZ (lim prog) (.fn DR [.p b3 0]) [.s x] q=some (.b (!FN f m x),q):=by
 show (lim prog).call DR [.s x,.p b3 0] q=_
 refine fn_W LB rfl rfl ?_
 have hz0:wkZ Ct.cin [.s x,.p b3 0]=[.s x,.p b3 0]:=by simp only [Ct,wkZ,wk]
 rw [hz0]
 have l0:=Hs (Over.enter q) (off:=0) (v:=.fn Av [.p b 0,.p b2 0]) lb3 hb3 rfl
 have hc:=RD ho h1 hw.enter (m:=m) (b:=b) (b2:=b2) (a:=a) (q:=q.enter) hb lb ha hb2 lb2 x
 simp only [Ct,go_sem,AD,AA,AC,AB,KB_n,KB_x,Nat.reduceBEq,Nat.reduceAdd,Nat.reduceLT,Nat.reduceLeDiff,Nat.reduceEqDiff,reduceIte,Int.reduceEq,reduceCtorEq,Nat.zero_add,l0,hc]
 exact AP (Over.enter q) rfl rfl
theorem SN {f:FT} (ho:f.Ok) (h1:f.one=true) {m:Nat} {q:St} (hw:Wf q) {b b2 b3:Nat} (hb:q.box? b=some (.cells 48 f.cells)) (lb:b < q.nb) {a:AV} (ha:Ca 1 a (((Ds f.kids).take m).map iv)) (hb2:q.box? b2=some (.cells 46 [a])) (lb2:b2 < q.nb) (hb3:q.box? b3=some (.cells 55 [.fn Av [.p b 0,.p b2 0]])) (lb3:b3 < q.nb) (x:List Nat) :
    DZ (lim prog) (.fn DS [.p b3 0]) [.s x] q=some (.b (!FN f m x),q):=by
 show (lim prog).call DS [.s x,.p b3 0] q=_
 refine fn_W LC rfl rfl ?_
 have hz0:wkZ Cu.cin [.s x,.p b3 0]=[.s x,.p b3 0]:=by simp only [Cu,wkZ,wk]
 rw [hz0]
 have l0:=Hs (Over.enter q) (off:=0) (v:=.fn Av [.p b 0,.p b2 0]) lb3 hb3 rfl
 have hc:=RD ho h1 hw.enter (m:=m) (b:=b) (b2:=b2) (a:=a) (q:=q.enter) hb lb ha hb2 lb2 x
 simp only [Cu,go_sem,AD,AA,AC,AB,KB_n,KB_x,Nat.reduceBEq,Nat.reduceAdd,Nat.reduceLT,Nat.reduceLeDiff,Nat.reduceEqDiff,reduceIte,Int.reduceEq,reduceCtorEq,Nat.zero_add,l0,hc]
 exact AP (Over.enter q) rfl rfl
theorem UV {f:FT} (h:f.one=true) (h2:f.rest=2):0≤f.beside∧f.beside≤(f.kids.length:Int):=by
 have hnk:=Fi h
 unfold FT.one at h
 simp only [Bool.and_eq_true] at h
 split at h
 · simp only [Bool.and_eq_true,FT.restB,if_pos h2,decide_eq_true_eq] at h
   omega
 · simp only [Bool.and_eq_true,decide_eq_true_eq] at h
   omega
theorem UW (f:FT) (ho:f.Ok) (h1:f.one=true) (L:List (List Nat)) (hL:L.length < 2^62) (s:St) (hw:Wf s):(lim prog).call GS [.agg f.cells,tx L] s=some (.b (CH f L),s):=by
 refine fn_W M2 rfl rfl ?_
 have hz0:wkZ CY.cin [.agg f.cells,tx L]=[.agg f.cells,tx L]:=by simp only [CY,wkZ,wk,SC,tx,QH]
 rw [hz0]
 have c6:f.cells.length=6:=rfl
 have e0:s.enter.nb=s.nb:=rfl
 have H1:=(Hp.begin hw).new (.cells 48 f.cells)
 obtain ⟨q1,hq1⟩:∃ q1,s.enter.new (.cells 48 f.cells)=q1:=⟨_,rfl⟩
 rw [hq1,e0] at H1
 have lw:=H1.ldw (m:=6) 0 rfl rfl
 have ln:=H1.ld 0 (off:=2) (v:=tx f.names) rfl rfl
 have lr:=H1.ld 0 (off:=4) (v:=.i .i64 f.rest) rfl rfl
 have lbs:=H1.ld 0 (off:=5) (v:=.i .i64 f.beside) rfl rfl
 have hnk:=Fi h1
 have pvf:=BH f
 have key:∀ m:Nat,m≤f.kids.length→∃ q2 q4 b b2 b3 a,(lim prog).call EG [.agg f.cells,.i .i64 (m:Nat)] q1=some (.fn Av [.p b 0,.p b2 0],q2)∧b3=q2.nb∧stA (q2.new (.cells 55 [.nf])) 1 (.p q2.nb 0) (.fn Av [.p b 0,.p b2 0])=some q4∧Hp s q4 s.en [] [(b3,.cells 55 [.fn Av [.p b 0,.p b2 0]]),(b2,.cells 46 [a]),(b,.cells 48 f.cells),(s.nb,.cells 48 f.cells)]∧Ca 1 a (((Ds f.kids).take m).map iv):=by
  intro m hm
  obtain ⟨q2,a,b,b2,d2,H2,ta⟩:=ZB ho hm H1
  have H3:=H2.new (.cells 55 [.nf])
  obtain ⟨q4,d4,H4,n4,_⟩:=H3.st 0 (off:=0) (v:=.fn Av [.p b 0,.p b2 0]) rfl (by simp) ⟨rfl,rfl⟩
  exact ⟨q2,q4,b,b2,q2.nb,a,d2,rfl,d4,H4,ta⟩
 by_cases r1:f.rest=1
 · have e1:(f.rest=1)=True:=by simp [r1]
   obtain ⟨q2,q4,b,b2,b3,a,d2,rfl,d4,H4,ta⟩:=key f.names.length (by omega)
   have x0:=H4.box (i:=0) rfl
   have x1:=H4.box (i:=1) rfl
   have x2:=H4.box (i:=2) rfl
   have hcf:=IA L hL DR [.p q2.nb 0] (fun x=>!FN f f.names.length x) q4 H4.wf fun z hz=>SM ho h1 H4.wf.enter.enter (q:=q4.enter.enter) x2.1 x2.2.2 ta x1.1 x1.2.2 x0.1 x0.2.2 z
   have hep:CH f L=!(L.any fun x=>!FN f f.names.length x):=by unfold CH; rw [if_pos r1]
   rw [hep]
   unfold tx at hcf
   simp only [CY,go_sem,AD,AA,AC,AB,KB_n,KB_x,Nat.reduceBEq,Nat.reduceAdd,Nat.reduceLT,Nat.reduceLeDiff,Nat.reduceEqDiff,reduceIte,Int.reduceEq,reduceCtorEq,Cd,c6,hq1,e0,Nat.zero_add,lw,ln,lr,pvf,tx,List.length_map,e1,d2,d4,hcf]
   exact AP H4.over rfl rfl
 · have e1:(f.rest=1)=False:=by simp [r1]
   by_cases r2:f.rest=2
   · have e2:(f.rest=2)=True:=by simp [r2]
     have hbb:=UV h1 r2
     obtain ⟨m,hm⟩:∃ m:Nat,f.beside=(m:Int):=⟨f.beside.toNat,by omega⟩
     obtain ⟨q2,q4,b,b2,b3,a,d2,rfl,d4,H4,ta⟩:=key m (by omega)
     have x0:=H4.box (i:=0) rfl
     have x1:=H4.box (i:=1) rfl
     have x2:=H4.box (i:=2) rfl
     have hcf:=IA L hL DS [.p q2.nb 0] (fun x=>!FN f m x) q4 H4.wf fun z hz=>SN ho h1 H4.wf.enter.enter (q:=q4.enter.enter) x2.1 x2.2.2 ta x1.1 x1.2.2 x0.1 x0.2.2 z
     have hep:CH f L=(L.any fun x=>!FN f m x):=by unfold CH; rw [if_neg r1,if_pos r2,hm,Int.toNat_natCast]
     rw [hep]
     unfold tx at hcf
     simp only [CY,go_sem,AD,AA,AC,AB,KB_n,KB_x,Nat.reduceBEq,Nat.reduceAdd,Nat.reduceLT,Nat.reduceLeDiff,Nat.reduceEqDiff,reduceIte,Int.reduceEq,reduceCtorEq,Cd,c6,hq1,e0,Nat.zero_add,lw,lr,lbs,hm,pvf,tx,e1,e2,d2,d4,hcf]
     exact AP H4.over rfl rfl
   · have e2:(f.rest=2)=False:=by simp [r2]
     have hep:CH f L=true:=by unfold CH; rw [if_neg r1,if_neg r2]
     rw [hep]
     simp only [CY,go_sem,AD,AA,AC,AB,KB_n,KB_x,Nat.reduceBEq,Nat.reduceAdd,Nat.reduceLT,Nat.reduceLeDiff,Nat.reduceEqDiff,reduceIte,Int.reduceEq,reduceCtorEq,Cd,c6,hq1,e0,Nat.zero_add,lr,e1,e2]
     exact AP H1.over rfl rfl

def Je (l:List FT) (root:ND) (n:Int):Option ND:=if (Gk l n).2=0 then EY root (Gk l n).1 else none
theorem W5 {l:List FT} (ho:FOk l) (n:Int):(Gk l n).1.length < 2^34:=by
 unfold Gk
 cases hm:mayP l
 · rw [if_neg (by simp)]; simp
 · rw [if_pos rfl]
   split
   · have:=RK (mayD hm) n.toNat (by omega)
     have:=ho.len
     simp only; omega
   · simp
theorem ZC {root:ND} (hr:root.Ok) (l:List FT) (n:Int):(GZ (Je l root n)).Ok:=by
 unfold Je
 split
 · exact Pm hr _
 · exact Zr
theorem NP {n:ND} (h:mayN n=true):FF n=true:=by
 unfold mayN at h
 simp only [Bool.and_eq_true] at h
 exact h.2.1
theorem cH (l:List FT) (ho:FOk l) (root:ND) (hr:root.Ok) (hwl:FF root=true) (n:Int) (s:St) (hw:Wf s) :
    (lim prog).call Ig [fx l,.agg root.cells,.i .i64 n] s=some (.tup [.agg (GZ (Je l root n)).cells,.b (Je l root n).isSome],s):=by
 refine fn_W Qm rfl rfl ?_
 have hz0:wkZ D8.cin [fx l,.agg root.cells,.i .i64 n]=[fx l,.agg root.cells,.i .i64 n]:=by
  simp only [D8,wkZ,LF .ws,wk]
  simp [ND.cells,wkZ,wk,fx]
 rw [hz0]
 have e0:s.enter.nb=s.nb:=rfl
 have H1:=((Hp.begin hw).new (.cells 37 root.cells)).new (.cells 37 [.i .u8 0,.s [],.nsl,.nsl])
 have e1:(s.enter.new (.cells 37 root.cells)).nb=s.nb+1:=rfl
 obtain ⟨q1,hq1⟩:∃ q1,(s.enter.new (.cells 37 root.cells)).new (.cells 37 [.i .u8 0,.s [],.nsl,.nsl])=q1:=⟨_,rfl⟩
 rw [hq1,e1,e0] at H1
 have lw:=H1.ldw (m:=4) 1 rfl rfl
 have hp:=ZP l ho n q1 H1.wf
 unfold fx tx at hp
 by_cases hz:(Gk l n).2=0
 · have e2:((Gk l n).2≠0)=False:=by simp [hz]
   have hx0:Je l root n=EY root (Gk l n).1:=by unfold Je; rw [if_pos hz]
   have hat:=UU root hr hwl (Gk l n).1 (by have:=W5 ho n; omega) q1 H1.wf
   rw [← hx0] at hat
   obtain ⟨x,hx⟩:∃ x,GZ (Je l root n)=x:=⟨_,rfl⟩
   rw [hx] at hat ⊢
   obtain ⟨q3,d3,H3,n3,_⟩:=H1.stw 0 (m:=4) (v:=.agg x.cells) rfl rfl ⟨Ar x,Pq x⟩
   have lr:=H3.ldw (m:=4) 0 rfl rfl
   simp only [Cd] at lr
   simp only [tx] at hat
   simp only [D8,go_sem,AD,AA,AC,AB,KB_n,KB_x,Nat.reduceBEq,Nat.reduceAdd,Nat.reduceLT,Nat.reduceLeDiff,Nat.reduceEqDiff,reduceIte,Int.reduceEq,reduceCtorEq,Ar,hq1,e1,e0,fx,hp,e2,lw,hat,d3,lr,AX,NT]
   exact KR_N H3.over x _
 · have e2:((Gk l n).2≠0)=True:=by simp [hz]
   have hx0:Je l root n=none:=by unfold Je; rw [if_neg hz]
   rw [hx0]
   obtain ⟨q3,d3,H3,n3,_⟩:=H1.stw 0 (m:=4) (v:=.agg [.i .u8 0,.s [],.nsl,.nsl]) rfl rfl ⟨rfl,rfl⟩
   have lr:=H3.ldw (m:=4) 0 rfl rfl
   simp only [Cd] at lr
   simp only [D8,go_sem,AD,AA,AC,AB,KB_n,KB_x,Nat.reduceBEq,Nat.reduceAdd,Nat.reduceLT,Nat.reduceLeDiff,Nat.reduceEqDiff,reduceIte,Int.reduceEq,reduceCtorEq,Ar,hq1,e1,e0,fx,hp,e2,EU,d3,lr]
   exact AP H3.over rfl rfl
def KX (l:List FT) (root:ND) (i:Nat):Bool:=match l[i]? with
 | some f=>f.known&&(decide ((GZ (Je l root i)).kind≠f.kind)||(decide ((GZ (Je l root i)).kind=2)&&!CH f (GZ (Je l root i)).names))
 | none=>false
def F1 (l:List FT) (root:ND):Int×Int:=if mayP l&&mayN root then (match (List.range l.length).find? (KX l root) with
 | some i=>((i:Int),0)
 | none=>(-1,0)) else (0,4)
theorem UX {P:Nat→Bool} {n i:Nat} (hi:i < n) (hp:P i=true) (hno:∀ j,j < i→P j=false):(List.range n).find? P=some i:=by
 rw [List.find?_range_eq_some]
 exact ⟨hp,by simpa using hi,fun j hj=>by simpa using hno j hj⟩
theorem NQ {P:Nat→Bool} {n:Nat} (hno:∀ j,j < n→P j=false):(List.range n).find? P=none:=by
 rw [List.find?_eq_none]
 intro x hx
 rw [List.mem_range] at hx
 simpa using hno x hx
theorem ZD {s q:St} (ov:Over s q) (a b:Int):KR s [.id,.id] (.tup [.i .i64 a,.i .i64 b]) (some ([.i .i64 a,.i .i64 b],q)):=AP ov rfl rfl
theorem ZE (l : List FT) (ho:FOk l) (root:ND) (hr:root.Ok) (hb:nodesN root < 2^62) (s:St) (hw:Wf s) :
    (lim prog).call Hl [fx l,.agg root.cells] s=some (.tup [.i .i64 (F1 l root).1,.i .i64 (F1 l root).2],s):=by
 refine fn_W PQ rfl rfl ?_
 have hz0:wkZ DB.cin [fx l,.agg root.cells]=[fx l,.agg root.cells]:=by
  simp only [DB,wkZ,LF .ws,wk]
  simp [ND.cells,wkZ,wk,fx]
 rw [hz0]
 have e0:s.enter.nb=s.nb:=rfl
 have H1:=(Hp.begin hw).new (.cells 37 root.cells)
 obtain ⟨q1,hq1⟩:∃ q1,s.enter.new (.cells 37 root.cells)=q1:=⟨_,rfl⟩
 rw [hq1,e0] at H1
 have lw:=H1.ldw (m:=4) 0 rfl rfl
 have hmay:=WT l ho.ok ho.len ho.fl q1 H1.wf
 have hmn:=cI root hr hb q1 H1.wf
 unfold fx at hmay
 cases hm:mayP l with
 | false =>
   rw [hm] at hmay
   simp only [DB,go_sem,AD,AA,AC,AB,KB_n,KB_x,Nat.reduceBEq,Nat.reduceAdd,Nat.reduceLT,Nat.reduceLeDiff,Nat.reduceEqDiff,reduceIte,Int.reduceEq,reduceCtorEq,Ar,hq1,e0,fx,hmay]
   unfold F1
   rw [hm,if_neg (by simp)]
   exact ZD H1.over 0 4
 | true =>
   rw [hm] at hmay
   cases hn:mayN root with
   | false =>
     rw [hn] at hmn
     simp only [DB,go_sem,AD,AA,AC,AB,KB_n,KB_x,Nat.reduceBEq,Nat.reduceAdd,Nat.reduceLT,Nat.reduceLeDiff,Nat.reduceEqDiff,reduceIte,Int.reduceEq,reduceCtorEq,Ar,hq1,e0,fx,hmay,lw,AX,hmn]
     unfold F1
     rw [hn,if_neg (by simp)]
     exact ZD H1.over 0 4
   | true =>
     rw [hn] at hmn
     have hwl:=NP hn
     simp only [DB,go_sem,AD,AA,AC,AB,KB_n,KB_x,Nat.reduceBEq,Nat.reduceAdd,Nat.reduceLT,Nat.reduceLeDiff,Nat.reduceEqDiff,reduceIte,Int.reduceEq,reduceCtorEq,Ar,hq1,e0,fx,hmay,lw,AX,hmn,List.length_map]
     refine Br (fun x e q=>∃ (i:Nat) (B:List (Nat×Box)),i+x=l.length∧Hp s q s.en [] ((s.nb,.cells 37 root.cells)::B)∧(∀ j,j < i→KX l root j=false)∧e.get 0=fx l∧e.get 3=.p s.nb 0∧e.get 18=.i .i64 (l.length:Nat)∧e.get 19=.i .i64 (i:Nat)) ?_ l.length _ _ ?_
     · rintro x e q ⟨i,B,hix,H,hno,g0,g3,g18,g19⟩
       by_cases h:i < l.length
       · have h1 : ((i:Int) < (l.length:Int))=True:=eq_true (by omega)
         obtain ⟨f,hf⟩:∃ f,l[i]? = some f:=⟨_,List.getElem?_eq_getElem h⟩
         have hfm:=List.mem_of_getElem? hf
         have hg:=JH hf
         have hth:∀ u:St,G1 u (.ws false 6 (l.map FT.av))=some (.ws false 6 (l.map FT.av),u):=fun _=>rfl
         have lk0:∀ u:St,ldA u false 1 (.ep f.cells 0 .shut)=some (.b f.known):=fun _=>rfl
         have lk1:∀ u:St,ldA u false 1 (.ep f.cells 1 .shut)=some (.i .u8 (f.kind:Nat)):=fun _=>rfl
         have ldf:=E9 f
         have pvf:=BH f
         have hall6:f.cells.all noTok=true:=rfl
         have hw1:=Aj (show i+1 < 2^63 by have:=ho.len; omega)
         cases hkn:f.known with
         | false =>
           rw [hkn] at lk0
           have hfb:KX l root i=false:=by unfold KX; rw [hf]; simp [hkn]
           simp only [go_sem,AD,AA,AC,AB,KB_n,KB_x,Nat.reduceBEq,Nat.reduceAdd,Nat.reduceLT,Nat.reduceLeDiff,Nat.reduceEqDiff,reduceIte,Int.reduceEq,reduceCtorEq,g0,g3,g18,g19,fx,h1,hth,AH,hg,Cd,Nat.zero_add,lk0,hw1]
           refine ⟨x - 1,by omega,i+1,B,by omega,H,fun j hj=>?_,rfl⟩
           by_cases hji:j < i
           · exact hno j hji
           · obtain rfl:j=i:=by omega
             exact hfb
         | true =>
           rw [hkn] at lk0
           have lw2:=H.ldw (m:=4) 0 rfl rfl
           have hnd:=cH l ho root hr hwl (i:Int) q H.wf
           have hxo:=ZC hr l (i:Int)
           obtain ⟨x',hx⟩:∃ x',GZ (Je l root (i:Int))=x':=⟨_,rfl⟩
           have hfb:KX l root i=(decide (x'.kind≠f.kind)||(decide (x'.kind=2)&&!CH f x'.names)):=by unfold KX; rw [hf]; simp only [hkn,Bool.true_and,hx]
           rw [hx] at hnd hxo
           obtain ⟨q2,d2,H2,n2⟩:=H.adp (T:=37) (m:=4) (z:=[.i .u8 0,.s [],.nsl,.nsl]) (v:=.agg x'.cells) rfl ⟨Ar x',Pq x'⟩
           have lx0:=H2.ld 0 (off:=0) (v:=.i .u8 (x'.kind:Nat)) rfl rfl
           have lx2:=H2.ld 0 (off:=2) (v:=tx x'.names) rfl rfl
           have hent:=UW f (ho.ok f hfm) (Pd hm hfm) x'.names (by have:=hxo.names.2; omega) q2 H2.wf
           simp only [fx] at hnd
           simp only [tx] at hent lx2
           have hsel:=H2.sel [] (1::0::List.range' 2 B.length) (by simp) (by
            refine List.nodup_cons.2 ⟨by simp,List.nodup_cons.2 ⟨by simp,List.nodup_range'⟩⟩)
           have hpk:∀ (x y:Nat×Box),pick (x::y::B) (1::0::List.range' 2 B.length)=y::x::B:=fun x y=>by
            have:pick (x::y::B) (List.range' 2 B.length)=B:=by
             have h1:List.range' 2 B.length=((List.range B.length).map (·+1)).map (·+1):=by
              apply List.ext_getElem<;>simp; omega
             rw [h1,Fp,Fp,FS]
            simp only [pick,List.getElem?_cons_zero,List.getElem?_cons_succ,this]
           rw [hpk] at hsel
           simp only [pick] at hsel
           have hstep:KX l root i=false→∃ m,m < x∧∃ (i':Nat) (B':List (Nat×Box)),i'+m=l.length∧Hp s q2 s.en [] ((s.nb,.cells 37 root.cells)::B')∧(∀ j,j < i'→KX l root j=false)∧i'=i+1:=fun hfb=>by
            refine ⟨x - 1,by omega,i+1,_,by omega,hsel,fun j hj=>?_,rfl⟩
            by_cases hji:j < i
            · exact hno j hji
            · obtain rfl:j=i:=by omega
              exact hfb
           have hfail:KX l root i=true→KR s [.id,.id] (.tup [.i .i64 (F1 l root).1,.i .i64 (F1 l root).2]) (some ([.i .i64 (i:Nat),.i .i64 0],q2)):=fun hfb=>by
            have hfp:F1 l root=((i:Int),0):=by
             unfold F1
             rw [hm,hn]
             simp only [Bool.and_self,if_true,UX h hfb hno]
            rw [hfp]
            exact ZD H2.over _ 0
           by_cases hk:x'.kind=f.kind
           · have e1:((x'.kind:Int)≠(f.kind:Int))=False:=by simp [hk]
             by_cases hk2:x'.kind=2
             · have e2:((x'.kind:Int)=2)=True:=by simp [hk2]
               cases hen:CH f x'.names with
               | true =>
                 rw [hen] at hent
                 obtain ⟨m,hm1,i',B',k1,k2,k3,rfl⟩:=hstep (by rw [hfb]; simp [hk,hen])
                 simp only [go_sem,AD,AA,AC,AB,KB_n,KB_x,Nat.reduceBEq,Nat.reduceAdd,Nat.reduceLT,Nat.reduceLeDiff,Nat.reduceEqDiff,reduceIte,Int.reduceEq,reduceCtorEq,g0,g3,g18,g19,fx,h1,hth,AH,hg,Cd,Nat.zero_add,lk0,lk1,lw2,AX,hnd,Ar,d2,lx0,lx2,e1,e2,ldf,pvf,hall6,hent,hw1]
                 exact ⟨m,hm1,i+1,B',k1,k2,k3,rfl⟩
               | false =>
                 rw [hen] at hent
                 simp only [go_sem,AD,AA,AC,AB,KB_n,KB_x,Nat.reduceBEq,Nat.reduceAdd,Nat.reduceLT,Nat.reduceLeDiff,Nat.reduceEqDiff,reduceIte,Int.reduceEq,reduceCtorEq,g0,g3,g18,g19,fx,h1,hth,AH,hg,Cd,Nat.zero_add,lk0,lk1,lw2,AX,hnd,Ar,d2,lx0,lx2,e1,e2,ldf,pvf,hall6,hent]
                 exact hfail (by rw [hfb]; simp [hk2,hen])
             · have e2:((x'.kind:Int)=2)=False:=eq_false (by omega)
               obtain ⟨m,hm1,i',B',k1,k2,k3,rfl⟩:=hstep (by rw [hfb]; simp [hk,hk2]; intro hh; exact absurd (hk.trans hh) hk2)
               simp only [go_sem,AD,AA,AC,AB,KB_n,KB_x,Nat.reduceBEq,Nat.reduceAdd,Nat.reduceLT,Nat.reduceLeDiff,Nat.reduceEqDiff,reduceIte,Int.reduceEq,reduceCtorEq,g0,g3,g18,g19,fx,h1,hth,AH,hg,Cd,Nat.zero_add,lk0,lk1,lw2,AX,hnd,Ar,d2,lx0,e1,e2,hw1]
               exact ⟨m,hm1,i+1,B',k1,k2,k3,rfl⟩
           · have e1:((x'.kind:Int)≠(f.kind:Int))=True:=by simp only [ne_eq,eq_iff_iff,iff_true]; omega
             simp only [go_sem,AD,AA,AC,AB,KB_n,KB_x,Nat.reduceBEq,Nat.reduceAdd,Nat.reduceLT,Nat.reduceLeDiff,Nat.reduceEqDiff,reduceIte,Int.reduceEq,reduceCtorEq,g0,g3,g18,g19,fx,h1,hth,AH,hg,Cd,Nat.zero_add,lk0,lk1,lw2,AX,hnd,Ar,d2,lx0,e1]
             exact hfail (by rw [hfb]; simp [hk])
       · have h1:((i:Int) < (l.length:Int))=False:=eq_false (by omega)
         simp only [go_sem,AD,AA,AC,AB,KB_n,KB_x,Nat.reduceBEq,Nat.reduceAdd,Nat.reduceLT,Nat.reduceLeDiff,Nat.reduceEqDiff,reduceIte,Int.reduceEq,reduceCtorEq,g18,g19,h1]
         have hfp:F1 l root=(-1,0):=by
          unfold F1
          rw [hm,hn]
          simp only [Bool.and_self,if_true,NQ fun j (hj:j < l.length)=>hno j (by omega)]
         rw [hfp]
         exact ZD H.over (-1) 0
     · simp only [go_sem,AD,AA,AC,AB,KB_n,KB_x,Nat.reduceBEq,Nat.reduceAdd,Nat.reduceLT,Nat.reduceLeDiff,Nat.reduceEqDiff,reduceIte,Int.reduceEq,reduceCtorEq]
       exact ⟨0,[],by omega,H1,fun j hj=>by omega,rfl,rfl⟩
end Go.Proofs.YtgloinighjdhlaaGreat

namespace Go.Proofs.YtgloinighjdhlaaGreat
open Go.Proofs.YtgloinighjdhlaaGreat.Am
theorem I7 (L:List Int):(Ds L).Perm L:=by
 unfold Ds; exact List.mergeSort_perm _ _
theorem ZF (L:List Int):(Ds L).Pairwise (·≤·):=by
 have:=List.pairwise_mergeSort (le:=fun x y:Int=>decide (x≤y)) (by intro a b c; simp; omega) (by intro a b; simp; omega) L
 unfold Ds
 exact this.imp (by simp)
theorem ZG {L:List Int} (h:L.Nodup):(Ds L).Pairwise (· < ·):=by
 have h1:=ZF L
 have h2:(Ds L).Pairwise (·≠·):=(I7 L).nodup_iff.2 h
 exact (h1.and h2).imp (by intro a b hab; omega)
theorem NR {L:List (List Nat)} {x:List Nat} {i:Nat} (h:L[i]? = some x) (hno:∀ j,j < i→∀ y,L[j]? = some y→y≠x):L.findIdx? (·==x)=some i:=by
 rw [List.findIdx?_eq_some_iff_getElem]
 rw [List.getElem?_eq_some_iff] at h
 obtain ⟨hi,h⟩:=h
 exact ⟨hi,by simp [h],fun j hj=>by simpa using hno j hj _ (List.getElem?_eq_getElem (by omega))⟩

attribute [local irreducible] W WO WE WQ WD Tr.get Tr.set
def RL (t:List Nat):Bool:=decide (t.length≤256)&&!t.contains 0
theorem SV (t:List Nat) (hl:t.length < 2^62) (s:St):(lim prog).call Du [.s t] s=some (.b (RL t),s):=by
 refine fn_W IH rfl rfl ?_
 simp only [C5,go_sem,AD,AA,AC,AB,KB_n,KB_x,Nat.reduceBEq,Nat.reduceAdd,Nat.reduceLT,Nat.reduceLeDiff,Nat.reduceEqDiff,reduceIte,Int.reduceEq,reduceCtorEq]
 refine Br (fun x e q=>∃ i:Nat,i+x=t.length∧q=s.enter∧(t.take i).contains 0=false∧e.get 0=.s t∧e.get 3=.i .i64 (i:Nat)) ?_ t.length _ _ ⟨0,by omega,rfl,by simp,by simp only [go_sem,AD,AA,AC,AB,KB_n,KB_x,Nat.reduceBEq,Nat.reduceAdd,Nat.reduceLT,Nat.reduceLeDiff,Nat.reduceEqDiff,reduceIte,Int.reduceEq,reduceCtorEq],by simp only [go_sem,AD,AA,AC,AB,KB_n,KB_x,Nat.reduceBEq,Nat.reduceAdd,Nat.reduceLT,Nat.reduceLeDiff,Nat.reduceEqDiff,reduceIte,Int.reduceEq,reduceCtorEq]; rfl⟩
 rintro x e q ⟨i,hi,rfl,hn,g0,g3⟩
 by_cases h:i < t.length
 · have e1:((i:Int) < (t.length:Int))=True:=eq_true (by omega)
   have hw1:=Aj (show i+1 < 2^63 by omega)
   have hc:t[i]? = some t[i]:=List.getElem?_eq_getElem h
   have htk:t.take (i+1)=t.take i++[t[i]]:=by rw [List.take_add_one,hc]; rfl
   by_cases h0:t[i]=0
   · have e2:((t[i]:Int)=0)=True:=by simp [h0]
     simp only [go_sem,AD,AA,AC,AB,KB_n,KB_x,Nat.reduceBEq,Nat.reduceAdd,Nat.reduceLT,Nat.reduceLeDiff,Nat.reduceEqDiff,reduceIte,Int.reduceEq,reduceCtorEq,g0,g3,e1,AH,hw1,hc,e2]
     refine AP (Over.enter s) rfl ?_
     have:RL t=false:=by
      have:t.contains 0=true:=by rw [List.contains_iff_mem,← h0]; exact List.getElem_mem h
      rw [RL,this]; simp
     rw [this]; rfl
   · have e2:((t[i]:Int)=0)=False:=eq_false (by omega)
     simp only [go_sem,AD,AA,AC,AB,KB_n,KB_x,Nat.reduceBEq,Nat.reduceAdd,Nat.reduceLT,Nat.reduceLeDiff,Nat.reduceEqDiff,reduceIte,Int.reduceEq,reduceCtorEq,g0,g3,e1,AH,hw1,hc,e2]
     refine ⟨x - 1,by omega,i+1,by omega,?_,rfl⟩
     have hb:(0==t[i])=false:=by simp only [beq_eq_false_iff_ne,ne_eq]; omega
     rw [htk]
     simp only [List.contains_append,hn,List.contains_cons,List.contains_nil,hb,Bool.or_self]
 · have e1:((i:Int) < (t.length:Int))=False:=eq_false (by omega)
   have e2:((t.length:Int)≤256)=(t.length≤256):=by simp only [eq_iff_iff]; omega
   rw [List.take_of_length_le (by omega)] at hn
   simp only [go_sem,AD,AA,AC,AB,KB_n,KB_x,Nat.reduceBEq,Nat.reduceAdd,Nat.reduceLT,Nat.reduceLeDiff,Nat.reduceEqDiff,reduceIte,Int.reduceEq,reduceCtorEq,g0,g3,e1,e2]
   refine AP (Over.enter s) rfl ?_
   simp only [RL,hn,CZ,wkZ,wk,Bool.not_false,Bool.and_true]
def W1 (n:ND):Bool:=decide (n.names.length=0)&&(decide (n.kids.length=0)&&(RL n.text&&(decide (n.kind=1)||decide (0 < n.text.length))))
theorem W1_eq (n:ND):(decide (n.names=[])&&(decide (n.kids.length=0)&&(decide (n.text.length≤256)&&(!n.text.contains 0&&(decide (n.kind=1)||decide (n.text≠[]))))))=W1 n:=by
 have h1:decide (n.names=[])=decide (n.names.length=0):=by simp
 have h2:decide (n.text≠[])=decide (0 < n.text.length):=by simp [List.length_pos_iff]
 unfold W1 RL
 rw [h1,h2,Bool.and_assoc]
theorem SW : ∀ n : ND,n.Ok→∀ s,Wf s→(lim prog).call C2 [.agg n.cells] s=some (.b (FF n),s):=by
 refine ND.ind fun n ih ho s hw=>?_
 refine fn_W IE rfl rfl ?_
 have H1:=(Hp.begin hw).new (.cells 37 n.cells)
 generalize hq:s.enter.new (.cells 37 n.cells)=q at H1
 generalize hm:s.enter.nb=m at H1
 have l0:=H1.ld 0 (off:=0) (v:=.i .u8 (n.kind:Nat)) rfl rfl
 have l1:=H1.ld 0 (off:=1) (v:=.s n.text) rfl rfl
 have l2:=H1.ld 0 (off:=2) (v:=tx n.names) rfl rfl
 have l3:=H1.ld 0 (off:=3) (v:=.ws false 4 (n.kids.map ND.av)) rfl rfl
 have hz0:wkZ AO.cin [.agg n.cells]=[.agg n.cells]:=by simp [AO,wkZ,wk,ND.cells]
 have ht:=SV n.text ho.text.2 q
 rw [hz0,MG,W1_eq]
 have hbr:∀ b,KR s [.id] (.b b) (some ([.b b],q)):=fun b=>AP H1.over rfl rfl
 by_cases c1:n.kind=1∨n.kind=3
 · rw [if_pos c1]
   by_cases k1:n.kind=1
   · have e1:((n.kind:Int)=1)=True:=eq_true (by omega)
     by_cases d1:n.names.length=0
     · have f1:((n.names.length:Int)=0)=True:=eq_true (by omega)
       by_cases d2:n.kids.length=0
       · have f2:((n.kids.length:Int)=0)=True:=eq_true (by omega)
         cases d3:RL n.text
         · rw [d3] at ht
           simp only [AO,go_sem,AD,AA,AC,AB,KB_n,KB_x,Nat.reduceBEq,Nat.reduceAdd,Nat.reduceLT,Nat.reduceLeDiff,Nat.reduceEqDiff,reduceIte,Int.reduceEq,reduceCtorEq,Ar,hq,hm,l0,l1,l2,l3,Nat.zero_add,List.length_map,ht,e1,f1,f2]
           rw [show W1 n=false by simp [W1,d3]]
           exact hbr _
         · rw [d3] at ht
           simp only [AO,go_sem,AD,AA,AC,AB,KB_n,KB_x,Nat.reduceBEq,Nat.reduceAdd,Nat.reduceLT,Nat.reduceLeDiff,Nat.reduceEqDiff,reduceIte,Int.reduceEq,reduceCtorEq,Ar,hq,hm,l0,l1,l2,l3,Nat.zero_add,List.length_map,ht,e1,f1,f2]
           rw [show W1 n=true by simp [W1,d1,d2,d3,k1]]
           exact hbr _
       · have f2:((n.kids.length:Int)=0)=False:=eq_false (by omega)
         simp only [AO,go_sem,AD,AA,AC,AB,KB_n,KB_x,Nat.reduceBEq,Nat.reduceAdd,Nat.reduceLT,Nat.reduceLeDiff,Nat.reduceEqDiff,reduceIte,Int.reduceEq,reduceCtorEq,Ar,hq,hm,l0,l1,l2,l3,Nat.zero_add,List.length_map,ht,e1,f1,f2]
         rw [show W1 n=false by simp [W1,d2]]
         exact hbr _
     · have f1:((n.names.length:Int)=0)=False:=eq_false (by omega)
       simp only [AO,go_sem,AD,AA,AC,AB,KB_n,KB_x,Nat.reduceBEq,Nat.reduceAdd,Nat.reduceLT,Nat.reduceLeDiff,Nat.reduceEqDiff,reduceIte,Int.reduceEq,reduceCtorEq,Ar,hq,hm,l0,l1,l2,l3,Nat.zero_add,List.length_map,ht,e1,f1]
       rw [show W1 n=false by simp [W1,d1]]
       exact hbr _
   · have e1 : ((n.kind:Int)=1)=False:=eq_false (by omega)
     have e3:((n.kind:Int)=3)=True:=eq_true (by omega)
     by_cases d1:n.names.length=0
     · have f1:((n.names.length:Int)=0)=True:=eq_true (by omega)
       by_cases d2:n.kids.length=0
       · have f2:((n.kids.length:Int)=0)=True:=eq_true (by omega)
         cases d3:RL n.text
         · rw [d3] at ht
           simp only [AO,go_sem,AD,AA,AC,AB,KB_n,KB_x,Nat.reduceBEq,Nat.reduceAdd,Nat.reduceLT,Nat.reduceLeDiff,Nat.reduceEqDiff,reduceIte,Int.reduceEq,reduceCtorEq,Ar,hq,hm,l0,l1,l2,l3,Nat.zero_add,List.length_map,ht,e1,e3,f1,f2]
           rw [show W1 n=false by simp [W1,d3]]
           exact hbr _
         · rw [d3] at ht
           by_cases d4:0 < n.text.length
           · have f4:((0:Int) < (n.text.length:Int))=True:=eq_true (by omega)
             simp only [AO,go_sem,AD,AA,AC,AB,KB_n,KB_x,Nat.reduceBEq,Nat.reduceAdd,Nat.reduceLT,Nat.reduceLeDiff,Nat.reduceEqDiff,reduceIte,Int.reduceEq,reduceCtorEq,Ar,hq,hm,l0,l1,l2,l3,Nat.zero_add,List.length_map,ht,e1,e3,f1,f2,f4]
             rw [show W1 n=true by simp [W1,d1,d2,d3,d4,k1]]
             exact hbr _
           · have f4:((0:Int) < (n.text.length:Int))=False:=eq_false (by omega)
             simp only [AO,go_sem,AD,AA,AC,AB,KB_n,KB_x,Nat.reduceBEq,Nat.reduceAdd,Nat.reduceLT,Nat.reduceLeDiff,Nat.reduceEqDiff,reduceIte,Int.reduceEq,reduceCtorEq,Ar,hq,hm,l0,l1,l2,l3,Nat.zero_add,List.length_map,ht,e1,e3,f1,f2,f4]
             rw [show W1 n=false by simp [W1,d1,d2,d3,d4,k1]]
             exact hbr _
       · have f2:((n.kids.length:Int)=0)=False:=eq_false (by omega)
         simp only [AO,go_sem,AD,AA,AC,AB,KB_n,KB_x,Nat.reduceBEq,Nat.reduceAdd,Nat.reduceLT,Nat.reduceLeDiff,Nat.reduceEqDiff,reduceIte,Int.reduceEq,reduceCtorEq,Ar,hq,hm,l0,l1,l2,l3,Nat.zero_add,List.length_map,ht,e1,e3,f1,f2]
         rw [show W1 n=false by simp [W1,d2]]
         exact hbr _
     · have f1:((n.names.length:Int)=0)=False:=eq_false (by omega)
       simp only [AO,go_sem,AD,AA,AC,AB,KB_n,KB_x,Nat.reduceBEq,Nat.reduceAdd,Nat.reduceLT,Nat.reduceLeDiff,Nat.reduceEqDiff,reduceIte,Int.reduceEq,reduceCtorEq,Ar,hq,hm,l0,l1,l2,l3,Nat.zero_add,List.length_map,ht,e1,e3,f1]
       rw [show W1 n=false by simp [W1,d1]]
       exact hbr _
 · rw [if_neg c1]
   have e1:((n.kind:Int)=1)=False:=eq_false (by omega)
   have e3:((n.kind:Int)=3)=False:=eq_false (by omega)
   by_cases c2:n.kind=2
   · rw [if_pos c2]
     have e2:((n.kind:Int)≠2)=False:=by simp [c2]
     by_cases d1:n.text=[]
     · have f1 : (n.text≠[])=False:=by simp [d1]
       by_cases d2:n.names.length=n.kids.length
       · have f2 : ((n.names.length:Int)≠(n.kids.length:Int))=False:=by simp only [ne_eq,eq_iff_iff,iff_false]; omega
         rw [decide_eq_true d1,decide_eq_true d2]
         simp only [AO,go_sem,AD,AA,AC,AB,KB_n,KB_x,Nat.reduceBEq,Nat.reduceAdd,Nat.reduceLT,Nat.reduceLeDiff,Nat.reduceEqDiff,reduceIte,Int.reduceEq,reduceCtorEq,Ar,hq,hm,l0,l1,l2,l3,Nat.zero_add,List.length_map,ht,e1,e2,e3,f1,f2]
         refine Br (fun x e q'=>∃ i:Nat,i+x=n.names.length∧q'=q∧Fg none (n.names.take i) (n.kids.take i)=true∧e.get 1=.p m 0∧e.get 3=.i .i64 (i:Nat)) ?_ n.names.length _ _ ⟨0,by omega,rfl,by simp [Fg],by simp only [go_sem,AD,AA,AC,AB,KB_n,KB_x,Nat.reduceBEq,Nat.reduceAdd,Nat.reduceLT,Nat.reduceLeDiff,Nat.reduceEqDiff,reduceIte,Int.reduceEq,reduceCtorEq],by simp only [go_sem,AD,AA,AC,AB,KB_n,KB_x,Nat.reduceBEq,Nat.reduceAdd,Nat.reduceLT,Nat.reduceLeDiff,Nat.reduceEqDiff,reduceIte,Int.reduceEq,reduceCtorEq]; rfl⟩
         rintro x e q' ⟨i,hi,rfl,hwl,g1,g3⟩
         have hnl:=ho.names.2
         by_cases h:i < n.names.length
         · have h1:((i:Int) < (n.names.length:Int))=True:=eq_true (by omega)
           obtain ⟨y,hy⟩:∃ y,n.names[i]? = some y:=⟨_,List.getElem?_eq_getElem h⟩
           obtain ⟨k,hk⟩:∃ k,n.kids[i]? = some k:=⟨_,List.getElem?_eq_getElem (by omega)⟩
           have hy2:(n.names.map AV.s)[i]? = some (.s y):=by rw [List.getElem?_map,hy]; rfl
           have hk2:=Hu hk
           have hkm:k∈n.kids:=List.mem_of_getElem? hk
           have hym:y∈n.names:=List.mem_of_getElem? hy
           have hnm:=Ua y (ho.names.1 y hym).len q'
           have hkc:=ih k hkm (ho.kids.1 k hkm) q' H1.wf
           have hld:ldA q' true 4 (.ep k.cells 0 .shut)=some (.agg k.cells):=rfl
           have hw1:=Aj (show i+1 < 2^63 by omega)
           have htk:n.names.take (i+1)=n.names.take i++[y]:=by rw [List.take_add_one,hy]; rfl
           have htk2:n.kids.take (i+1)=n.kids.take i++[k]:=by rw [List.take_add_one,hk]; rfl
           have hsn:=LI none (n.names.take i) (n.kids.take i) y k (by rw [List.length_take,List.length_take]; omega)
           rw [← htk,← htk2,hwl,Bool.true_and] at hsn
           have hno:Fg none (n.names.take (i+1)) (n.kids.take (i+1))=false→Fg none n.names n.kids=false:=fun hf=>by
            rw [Bool.eq_false_iff]
            intro ht
            rw [LJ n none n.names n.kids (i+1) ht] at hf
            cases hf
           cases hn1:Fh y with
           | false =>
             rw [hn1] at hnm hsn
             rw [hno hsn]
             simp only [go_sem,AD,AA,AC,AB,KB_n,KB_x,Nat.reduceBEq,Nat.reduceAdd,Nat.reduceLT,Nat.reduceLeDiff,Nat.reduceEqDiff,reduceIte,Int.reduceEq,reduceCtorEq,g1,g3,l2,List.length_map,h1,AH,hy2,CN,Dm,hnm,Nat.zero_add]
             exact hbr _
           | true =>
           rw [hn1] at hnm hsn
           cases i with
           | zero =>
             have h2:((0:Int) < ((0:Nat):Int))=False:=by simp
             have hsn:Fg none (n.names.take (0+1)) (n.kids.take (0+1))=FF k:=by rw [hsn]; simp
             cases hwk:FF k with
             | false =>
               rw [hwk] at hkc hsn
               rw [hno hsn]
               simp only [go_sem,AD,AA,AC,AB,KB_n,KB_x,Nat.reduceBEq,Nat.reduceAdd,Nat.reduceLT,Nat.reduceLeDiff,Nat.reduceEqDiff,reduceIte,Int.reduceEq,reduceCtorEq,g1,g3,l2,List.length_map,h1,AH,hy2,CN,Dm,hnm,h2,l3,hk2,hld,AX,hkc,Nat.zero_add]
               exact ⟨rfl,hbr _⟩
             | true =>
               rw [hwk] at hkc hsn
               simp only [go_sem,AD,AA,AC,AB,KB_n,KB_x,Nat.reduceBEq,Nat.reduceAdd,Nat.reduceLT,Nat.reduceLeDiff,Nat.reduceEqDiff,reduceIte,Int.reduceEq,reduceCtorEq,g1,g3,l2,List.length_map,h1,AH,hy2,CN,Dm,hnm,h2,l3,hk2,hld,AX,hkc,hw1,Nat.zero_add]
               exact ⟨rfl,x - 1,by omega,0+1,by omega,hsn,by first | trivial | rfl⟩
           | succ i =>
             have h2:((0:Int) < ((i+1:Nat):Int))=True:=eq_true (by omega)
             obtain ⟨z,hz⟩:∃ z,n.names[i]? = some z:=⟨_,List.getElem?_eq_getElem (by omega)⟩
             have hz2:(n.names.map AV.s)[i]? = some (.s z):=by rw [List.getElem?_map,hz]; rfl
             have hsb:IntKind.i64.wrap (((i+1:Nat):Int) - 1)=(i:Int):=by
              rw [show ((i+1:Nat):Int) - 1=(i:Int) by omega]; exact FG (by omega)
             rw [Lf hz] at hsn
             have hsn:Fg none (n.names.take (i+1+1)) (n.kids.take (i+1+1))=(ltN z y&&FF k):=by rw [hsn]; simp
             have hle:(ltN y z||beqN y z)=!ltN z y:=KZ y z
             cases hzy:ltN z y with
             | false =>
               rw [hzy] at hle hsn
               rw [hno hsn]
               simp only [go_sem,AD,AA,AC,AB,KB_n,KB_x,Nat.reduceBEq,Nat.reduceAdd,Nat.reduceLT,Nat.reduceLeDiff,Nat.reduceEqDiff,reduceIte,Int.reduceEq,reduceCtorEq,g1,g3,List.length_map,h1,AH,hy2,CN,Dm,hnm,h2,l2,hsb,hz2,Ld,hle,Nat.zero_add]
               exact hbr _
             | true =>
               rw [hzy] at hle hsn
               cases hwk:FF k with
               | false =>
                 rw [hwk] at hkc hsn
                 rw [hno hsn]
                 simp only [go_sem,AD,AA,AC,AB,KB_n,KB_x,Nat.reduceBEq,Nat.reduceAdd,Nat.reduceLT,Nat.reduceLeDiff,Nat.reduceEqDiff,reduceIte,Int.reduceEq,reduceCtorEq,g1,g3,List.length_map,h1,AH,hy2,CN,Dm,hnm,h2,l2,hsb,hz2,Ld,hle,l3,hk2,hld,AX,hkc,Nat.zero_add]
                 exact ⟨rfl,hbr _⟩
               | true =>
                 rw [hwk] at hkc hsn
                 simp only [go_sem,AD,AA,AC,AB,KB_n,KB_x,Nat.reduceBEq,Nat.reduceAdd,Nat.reduceLT,Nat.reduceLeDiff,Nat.reduceEqDiff,reduceIte,Int.reduceEq,reduceCtorEq,g1,g3,List.length_map,h1,AH,hy2,CN,Dm,hnm,h2,l2,hsb,hz2,Ld,hle,l3,hk2,hld,AX,hkc,hw1,Nat.zero_add]
                 exact ⟨rfl,x - 1,by omega,i+1+1,by omega,hsn,by first | trivial | rfl⟩
         · have h1:((i:Int) < (n.names.length:Int))=False:=eq_false (by omega)
           rw [List.take_of_length_le (by omega),List.take_of_length_le (by omega)] at hwl
           rw [hwl]
           simp only [go_sem,AD,AA,AC,AB,KB_n,KB_x,Nat.reduceBEq,Nat.reduceAdd,Nat.reduceLT,Nat.reduceLeDiff,Nat.reduceEqDiff,reduceIte,Int.reduceEq,reduceCtorEq,g1,g3,l2,List.length_map,h1,Nat.zero_add]
           exact hbr _
       · have f2:((n.names.length:Int)≠(n.kids.length:Int))=True:=by simp only [ne_eq,eq_iff_iff,iff_true]; omega
         rw [decide_eq_true d1,decide_eq_false d2]
         simp only [AO,go_sem,AD,AA,AC,AB,KB_n,KB_x,Nat.reduceBEq,Nat.reduceAdd,Nat.reduceLT,Nat.reduceLeDiff,Nat.reduceEqDiff,reduceIte,Int.reduceEq,reduceCtorEq,Ar,hq,hm,l0,l1,l2,l3,Nat.zero_add,List.length_map,ht,e1,e2,e3,f1,f2]
         exact hbr _
     · have f1:(n.text≠[])=True:=by simp [d1]
       rw [decide_eq_false d1]
       simp only [AO,go_sem,AD,AA,AC,AB,KB_n,KB_x,Nat.reduceBEq,Nat.reduceAdd,Nat.reduceLT,Nat.reduceLeDiff,Nat.reduceEqDiff,reduceIte,Int.reduceEq,reduceCtorEq,Ar,hq,hm,l0,l1,l2,l3,Nat.zero_add,List.length_map,ht,e1,e2,e3,f1]
       exact hbr _
   · rw [if_neg c2]
     have e2:((n.kind:Int)≠2)=True:=by simp only [ne_eq,eq_iff_iff,iff_true]; omega
     simp only [AO,go_sem,AD,AA,AC,AB,KB_n,KB_x,Nat.reduceBEq,Nat.reduceAdd,Nat.reduceLT,Nat.reduceLeDiff,Nat.reduceEqDiff,reduceIte,Int.reduceEq,reduceCtorEq,Ar,hq,hm,l0,l1,l2,l3,Nat.zero_add,List.length_map,ht,e1,e2,e3]
     exact hbr _
theorem Li:∀ n:ND,n.Ok→nodesN n < 2^62→∀ s,Wf s→(lim prog).call Ad [.agg n.cells] s=some (.i .i64 (nodesN n:Nat),s):=by
 refine ND.ind fun n ih ho hb s hw=>?_
 refine fn_W E8 rfl rfl ?_
 have H1:=(Hp.begin hw).new (.cells 37 n.cells)
 generalize hq:s.enter.new (.cells 37 n.cells)=q at H1
 generalize hm:s.enter.nb=m at H1
 have l3:=H1.ld 0 (off:=3) (v:=.ws false 4 (n.kids.map ND.av)) rfl rfl
 have hN:=FE n
 have hkl:=ho.kids.2
 have hz0:wkZ Bd.cin [.agg n.cells]=[.agg n.cells]:=by simp [Bd,wkZ,wk,ND.cells]
 rw [hz0]
 simp only [Bd,go_sem,AD,AA,AC,AB,KB_n,KB_x,Nat.reduceBEq,Nat.reduceAdd,Nat.reduceLT,Nat.reduceLeDiff,Nat.reduceEqDiff,reduceIte,Int.reduceEq,reduceCtorEq,Ar,hq,hm]
 refine Br (fun x e q'=>∃ i:Nat,i+x=n.kids.length∧q'=q∧e.get 1=.p m 0∧e.get 3=.i .i64 ((1+((n.kids.take i).map nodesN).sum:Nat):Int)∧e.get 4=.i .i64 (i:Nat)) ?_ n.kids.length _ _ ⟨0,by omega,rfl,by simp only [go_sem,AD,AA,AC,AB,KB_n,KB_x,Nat.reduceBEq,Nat.reduceAdd,Nat.reduceLT,Nat.reduceLeDiff,Nat.reduceEqDiff,reduceIte,Int.reduceEq,reduceCtorEq],by simp only [go_sem,AD,AA,AC,AB,KB_n,KB_x,Nat.reduceBEq,Nat.reduceAdd,Nat.reduceLT,Nat.reduceLeDiff,Nat.reduceEqDiff,reduceIte,Int.reduceEq,reduceCtorEq]; rfl,by simp only [go_sem,AD,AA,AC,AB,KB_n,KB_x,Nat.reduceBEq,Nat.reduceAdd,Nat.reduceLT,Nat.reduceLeDiff,Nat.reduceEqDiff,reduceIte,Int.reduceEq,reduceCtorEq]; rfl⟩
 rintro x e q' ⟨i,hi,rfl,g1,g3,g4⟩
 by_cases h:i < n.kids.length
 · have e1:((i:Int) < (n.kids.length:Int))=True:=eq_true (by omega)
   obtain ⟨k,hk1⟩:∃ k,n.kids[i]? = some k:=⟨_,List.getElem?_eq_getElem h⟩
   have hmem:k∈n.kids:=List.mem_of_getElem? hk1
   have hget:=Hu hk1
   have hle:=HQ (f:=nodesN) hmem
   have hts:=KY nodesN hk1
   have htl:=NS nodesN n.kids (i+1)
   have hc:=ih k hmem (ho.kids.1 k hmem) (by omega) q' H1.wf
   have hsum:IntKind.i64.wrap (((1+((n.kids.take i).map nodesN).sum:Nat):Int)+((nodesN k:Nat):Int))=((1+((n.kids.take (i+1)).map nodesN).sum:Nat):Int):=by
    rw [hts,show ((1+((n.kids.take i).map nodesN).sum:Nat):Int)+((nodesN k:Nat):Int)=((1+(((n.kids.take i).map nodesN).sum+nodesN k):Nat):Int) by omega]
    exact FG (by omega)
   have hw1:=Aj (show i+1 < 2^63 by omega)
   have hld:ldA q' true 4 (.ep k.cells 0 .shut)=some (.agg k.cells):=rfl
   simp only [go_sem,AD,AA,AC,AB,KB_n,KB_x,Nat.reduceBEq,Nat.reduceAdd,Nat.reduceLT,Nat.reduceLeDiff,Nat.reduceEqDiff,reduceIte,Int.reduceEq,reduceCtorEq,g1,g3,g4,l3,List.length_map,e1,AH,hget,hld,AX,hc,hsum,hw1,Nat.zero_add]
   exact ⟨x - 1,by omega,i+1,by omega,rfl,rfl⟩
 · have e1:((i:Int) < (n.kids.length:Int))=False:=eq_false (by omega)
   obtain rfl:i=n.kids.length:=by omega
   simp only [go_sem,AD,AA,AC,AB,KB_n,KB_x,Nat.reduceBEq,Nat.reduceAdd,Nat.reduceLT,Nat.reduceLeDiff,Nat.reduceEqDiff,reduceIte,Int.reduceEq,reduceCtorEq,g1,g3,g4,l3,List.length_map,e1,Nat.zero_add]
   refine AP H1.over rfl ?_
   rw [hN,List.take_length]; rfl
theorem SX:∀ n:ND,n.Ok→nodesN n < 2^62→∀ s,Wf s→(lim prog).call C3 [.agg n.cells] s=some (.i .i64 (deepN n:Nat),s):=by
 refine ND.ind fun n ih ho hb s hw=>?_
 refine fn_W IG rfl rfl ?_
 have H1:=(Hp.begin hw).new (.cells 37 n.cells)
 generalize hq:s.enter.new (.cells 37 n.cells)=q at H1
 generalize hm:s.enter.nb=m at H1
 have l3:=H1.ld 0 (off:=3) (v:=.ws false 4 (n.kids.map ND.av)) rfl rfl
 have hN:=FE n
 have hkl:=ho.kids.2
 have hz0:wkZ Bh.cin [.agg n.cells]=[.agg n.cells]:=by simp [Bh,wkZ,wk,ND.cells]
 rw [hz0]
 simp only [Bh,go_sem,AD,AA,AC,AB,KB_n,KB_x,Nat.reduceBEq,Nat.reduceAdd,Nat.reduceLT,Nat.reduceLeDiff,Nat.reduceEqDiff,reduceIte,Int.reduceEq,reduceCtorEq,Ar,hq,hm]
 refine Br (fun x e q'=>∃ i:Nat,i+x=n.kids.length∧q'=q∧e.get 1=.p m 0∧e.get 3=.i .i64 ((((n.kids.take i).map fun k=>1+deepN k).foldr max 0:Nat):Int)∧e.get 4=.i .i64 (i:Nat)) ?_ n.kids.length _ _ ⟨0,by omega,rfl,by simp only [go_sem,AD,AA,AC,AB,KB_n,KB_x,Nat.reduceBEq,Nat.reduceAdd,Nat.reduceLT,Nat.reduceLeDiff,Nat.reduceEqDiff,reduceIte,Int.reduceEq,reduceCtorEq],by simp only [go_sem,AD,AA,AC,AB,KB_n,KB_x,Nat.reduceBEq,Nat.reduceAdd,Nat.reduceLT,Nat.reduceLeDiff,Nat.reduceEqDiff,reduceIte,Int.reduceEq,reduceCtorEq]; rfl,by simp only [go_sem,AD,AA,AC,AB,KB_n,KB_x,Nat.reduceBEq,Nat.reduceAdd,Nat.reduceLT,Nat.reduceLeDiff,Nat.reduceEqDiff,reduceIte,Int.reduceEq,reduceCtorEq]; rfl⟩
 rintro x e q' ⟨i,hi,rfl,g1,g3,g4⟩
 by_cases h:i < n.kids.length
 · have e1:((i:Int) < (n.kids.length:Int))=True:=eq_true (by omega)
   obtain ⟨k,hk1⟩:∃ k,n.kids[i]? = some k:=⟨_,List.getElem?_eq_getElem h⟩
   have hmem:k∈n.kids:=List.mem_of_getElem? hk1
   have hget:=Hu hk1
   have hle:=HQ (f:=nodesN) hmem
   have hdn:=Ob k
   have hmt:=Te (fun k=>1+deepN k) hk1
   have hc:=ih k hmem (ho.kids.1 k hmem) (by omega) q' H1.wf
   have hsum:IntKind.i64.wrap (((deepN k:Nat):Int)+1)=((1+deepN k:Nat):Int):=by
    rw [show ((deepN k:Nat):Int)+1=((1+deepN k:Nat):Int) by omega]
    exact FG (by omega)
   have hmx:(if ((1+deepN k:Nat):Int) > ((((n.kids.take i).map fun k=>1+deepN k).foldr max 0:Nat):Int) then ((1+deepN k:Nat):Int) else ((((n.kids.take i).map fun k=>1+deepN k).foldr max 0:Nat):Int))=((((n.kids.take (i+1)).map fun k=>1+deepN k).foldr max 0:Nat):Int):=by
    rw [hmt]
    split<;>omega
   have hw1:=Aj (show i+1 < 2^63 by omega)
   have hld:ldA q' true 4 (.ep k.cells 0 .shut)=some (.agg k.cells):=rfl
   simp only [go_sem,AD,AA,AC,AB,KB_n,KB_x,Nat.reduceBEq,Nat.reduceAdd,Nat.reduceLT,Nat.reduceLeDiff,Nat.reduceEqDiff,reduceIte,Int.reduceEq,reduceCtorEq,g1,g3,g4,l3,List.length_map,e1,AH,hget,hld,AX,hc,hsum,hmx,hw1,Nat.zero_add]
   exact ⟨x - 1,by omega,i+1,by omega,rfl,rfl⟩
 · have e1:((i:Int) < (n.kids.length:Int))=False:=eq_false (by omega)
   obtain rfl:i=n.kids.length:=by omega
   simp only [go_sem,AD,AA,AC,AB,KB_n,KB_x,Nat.reduceBEq,Nat.reduceAdd,Nat.reduceLT,Nat.reduceLeDiff,Nat.reduceEqDiff,reduceIte,Int.reduceEq,reduceCtorEq,g1,g3,g4,l3,List.length_map,e1,Nat.zero_add]
   refine AP H1.over rfl ?_
   rw [Pp,List.take_length]; rfl
theorem UZ (n:ND) (ho:n.Ok) (hb:nodesN n < 2^62) (s:St) (hw:Wf s):(lim prog).call A1 [.agg n.cells] s=some (.b (mayN n),s):=by
 refine fn_W Fv rfl rfl ?_
 have H1:=(Hp.begin hw).new (.cells 37 n.cells)
 generalize hq:s.enter.new (.cells 37 n.cells)=q at H1
 generalize hm:s.enter.nb=m at H1
 have l0:=H1.ld 0 (off:=0) (v:=.i .u8 (n.kind:Nat)) rfl rfl
 have lw:=H1.ldw 0 (m:=4) rfl rfl
 have h1:=SW n ho q H1.wf
 have h2:=Li n ho hb q H1.wf
 have h3:=SX n ho hb q H1.wf
 have hbr:∀ b,KR s [.id] (.b b) (some ([.b b],q)):=fun b=>AP H1.over rfl rfl
 have hz0:wkZ A2.cin [.agg n.cells]=[.agg n.cells]:=by simp [A2,wkZ,wk,ND.cells]
 rw [hz0]
 unfold mayN
 have e4:((deepN n:Int)≤24)=(deepN n≤24):=by simp only [eq_iff_iff]; omega
 by_cases c1:n.kind=2
 · have e1:((n.kind:Int)=2)=True:=eq_true (by omega)
   rw [decide_eq_true c1]
   cases c2:FF n with
   | false =>
     rw [c2] at h1
     simp only [A2,go_sem,AD,AA,AC,AB,KB_n,KB_x,Nat.reduceBEq,Nat.reduceAdd,Nat.reduceLT,Nat.reduceLeDiff,Nat.reduceEqDiff,reduceIte,Int.reduceEq,reduceCtorEq,Ar,hq,hm,l0,lw,AX,Nat.zero_add,e1,h1]
     exact hbr _
   | true =>
     rw [c2] at h1
     by_cases c3:nodesN n≤1024
     · have e3:((nodesN n:Int)≤1024)=True:=eq_true (by omega)
       rw [decide_eq_true c3]
       simp only [A2,go_sem,AD,AA,AC,AB,KB_n,KB_x,Nat.reduceBEq,Nat.reduceAdd,Nat.reduceLT,Nat.reduceLeDiff,Nat.reduceEqDiff,reduceIte,Int.reduceEq,reduceCtorEq,Ar,hq,hm,l0,lw,AX,Nat.zero_add,e1,h1,h2,h3,e3,e4]
       exact hbr _
     · have e3:((nodesN n:Int)≤1024)=False:=eq_false (by omega)
       rw [decide_eq_false c3]
       simp only [A2,go_sem,AD,AA,AC,AB,KB_n,KB_x,Nat.reduceBEq,Nat.reduceAdd,Nat.reduceLT,Nat.reduceLeDiff,Nat.reduceEqDiff,reduceIte,Int.reduceEq,reduceCtorEq,Ar,hq,hm,l0,lw,AX,Nat.zero_add,e1,h1,h2,h3,e3]
       exact hbr _
 · have e1:((n.kind:Int)=2)=False:=eq_false (by omega)
   rw [decide_eq_false c1]
   simp only [A2,go_sem,AD,AA,AC,AB,KB_n,KB_x,Nat.reduceBEq,Nat.reduceAdd,Nat.reduceLT,Nat.reduceLeDiff,Nat.reduceEqDiff,reduceIte,Int.reduceEq,reduceCtorEq,Ar,hq,hm,l0,Nat.zero_add,e1]
   exact hbr _
end Go.Proofs.YtgloinighjdhlaaGreat

namespace Go.Proofs.YtgloinighjdhlaaGreat
open Go.Proofs.YtgloinighjdhlaaGreat.Am

attribute [local irreducible] W WO WE WQ WD Tr.get Tr.set
theorem wkFN (l:List FT) (root:ND):wkZ [(.sl 6 (.agg [.id,.id,(.sl 1 .id),(.sl 1 .id),.id,.id])),ctN] [fx l,.agg root.cells]=[fx l,.agg root.cells]:=by
 simp only [wkZ,LF .ws,wk]
 simp [ND.cells,wkZ,wk,fx]
def Bq (l:List FT) (root:ND):Bool:=decide ((F1 l root).2=0)&&decide ((F1 l root).1 < 0)
theorem holds_ok (l:List FT) (ho:FOk l) (root:ND) (hr:root.Ok) (hb:nodesN root < 2^62) (s:St) (hw:Wf s) :
    (lim prog).call CO [fx l,.agg root.cells] s=some (.b (Bq l root),s):=by
 refine fn_W J9 rfl rfl ?_
 have hz0:wkZ EH.cin [fx l,.agg root.cells]=[fx l,.agg root.cells]:=wkFN l root
 rw [hz0]
 have e0:s.enter.nb=s.nb:=rfl
 have H1:=(Hp.begin hw).new (.cells 37 root.cells)
 obtain ⟨q1,hq1⟩:∃ q1,s.enter.new (.cells 37 root.cells)=q1:=⟨_,rfl⟩
 rw [hq1,e0] at H1
 have lw:=H1.ldw (m:=4) 0 rfl rfl
 have hf:=ZE l ho root hr hb q1 H1.wf
 unfold fx at hf
 unfold Bq
 by_cases hz:(F1 l root).2=0
 · have e1:((F1 l root).2=0)=True:=by simp [hz]
   simp only [EH,go_sem,AD,AA,AC,AB,KB_n,KB_x,Nat.reduceBEq,Nat.reduceAdd,Nat.reduceLT,Nat.reduceLeDiff,Nat.reduceEqDiff,reduceIte,Int.reduceEq,reduceCtorEq,Ar,hq1,e0,fx,lw,AX,hf,e1]
   exact AP H1.over rfl (by simp [CZ,wkZ,wk])
 · have e1:((F1 l root).2=0)=False:=by simp [hz]
   simp only [EH,go_sem,AD,AA,AC,AB,KB_n,KB_x,Nat.reduceBEq,Nat.reduceAdd,Nat.reduceLT,Nat.reduceLeDiff,Nat.reduceEqDiff,reduceIte,Int.reduceEq,reduceCtorEq,Ar,hq1,e0,fx,lw,AX,hf,e1]
   exact AP H1.over rfl (by simp [CZ,wkZ,wk])

def Pe (f:FT):Bool:=decide (f.names.length≤50)&&(decide (f.kids.length≤50)&&f.names.all fun s=>decide (s.length≤300))
def Pf (l:List FT):Bool:=!(decide (l.length≤50)&&l.all Pe)
theorem NA {l:List FT} {f:FT} (hf:f∈l) (h:Pe f=false):Pf l=true:=by
 unfold Pf
 have:l.all Pe=false:=by
  rw [Bool.eq_false_iff]
  intro hh
  rw [List.all_eq_true] at hh
  rw [hh f hf] at h; cases h
 rw [this,Bool.and_false]; rfl
theorem Yu (l:List FT) (ho:∀ f∈l,f.Ok) (s:St) (hw:Wf s):(lim prog).call Aw [fx l] s=some (.b (Pf l),s):=by
 refine fn_W FM rfl rfl ?_
 have hz0:wkZ BV.cin [fx l]=[fx l]:=by simp only [BV,wkZ,fx,wk]
 have hbr:∀ b,KR s [.id] (.b b) (some ([.b b],s.enter)):=fun z=>AP (Over.enter s) rfl rfl
 have hth:∀ u:St,G1 u (.ws false 6 (l.map FT.av))=some (.ws false 6 (l.map FT.av),u):=fun _=>rfl
 rw [hz0]
 by_cases hlen:50 < l.length
 · have e1:((50:Int) < (l.length:Int))=True:=eq_true (by omega)
   rw [show Pf l=true by unfold Pf; rw [decide_eq_false (by omega)]; rfl]
   simp only [BV,go_sem,AD,AA,AC,AB,KB_n,KB_x,Nat.reduceBEq,Nat.reduceAdd,Nat.reduceLT,Nat.reduceLeDiff,Nat.reduceEqDiff,reduceIte,Int.reduceEq,reduceCtorEq,fx,List.length_map,e1]
   exact hbr _
 · have e1 : ((50 : Int) < (l.length:Int))=False:=eq_false (by omega)
   simp only [BV,go_sem,AD,AA,AC,AB,KB_n,KB_x,Nat.reduceBEq,Nat.reduceAdd,Nat.reduceLT,Nat.reduceLeDiff,Nat.reduceEqDiff,reduceIte,Int.reduceEq,reduceCtorEq,fx,List.length_map,e1]
   refine Br (fun x e q=>∃ i:Nat,i+x=l.length∧q=s.enter∧(∀ a g,a < i→l[a]? = some g→Pe g=true)∧e.get 0=fx l∧e.get 3=.i .i64 (i:Nat)) ?_ l.length _ _ ?_
   · rintro x e q ⟨i,hix,rfl,hfi,g0,g3⟩
     by_cases h:i < l.length
     · have h1 : ((i:Int) < (l.length:Int))=True:=eq_true (by omega)
       obtain ⟨g,hg⟩:∃ g,l[i]? = some g:=⟨_,List.getElem?_eq_getElem h⟩
       have hgm:=List.mem_of_getElem? hg
       have hg2:=JH hg
       have hgo:=ho g hgm
       have hw1:=Aj (show i+1 < 2^63 by omega)
       have l2:∀ u,ldA u false 1 (.ep g.cells 2 .shut)=some (tx g.names):=fun u=>rfl
       have l3:∀ u,ldA u false 1 (.ep g.cells 3 .shut)=some (zx g.kids):=fun u=>rfl
       by_cases d1:50 < g.names.length
       · have r1:((50:Int) < (g.names.length:Int))=True:=eq_true (by omega)
         rw [NA hgm (by unfold Pe; rw [decide_eq_false (by omega),Bool.false_and])]
         simp only [go_sem,AD,AA,AC,AB,KB_n,KB_x,Nat.reduceBEq,Nat.reduceAdd,Nat.reduceLT,Nat.reduceLeDiff,Nat.reduceEqDiff,reduceIte,Int.reduceEq,reduceCtorEq,g0,g3,fx,zx,List.length_map,h1,hth,AH,hg2,Cd,l2,l3,r1]
         exact hbr _
       · have r1 : ((50:Int) < (g.names.length:Int))=False:=eq_false (by omega)
         by_cases d2:50 < g.kids.length
         · have r2:((50:Int) < (g.kids.length:Int))=True:=eq_true (by omega)
           rw [NA hgm (by unfold Pe; rw [decide_eq_false (show ¬ g.kids.length≤50 by omega),Bool.false_and,Bool.and_false])]
           simp only [go_sem,AD,AA,AC,AB,KB_n,KB_x,Nat.reduceBEq,Nat.reduceAdd,Nat.reduceLT,Nat.reduceLeDiff,Nat.reduceEqDiff,reduceIte,Int.reduceEq,reduceCtorEq,g0,g3,fx,zx,List.length_map,h1,hth,AH,hg2,Cd,l2,l3,r1,r2]
           exact hbr _
         · have r2 : ((50:Int) < (g.kids.length:Int))=False:=eq_false (by omega)
           simp only [go_sem,AD,AA,AC,AB,KB_n,KB_x,Nat.reduceBEq,Nat.reduceAdd,Nat.reduceLT,Nat.reduceLeDiff,Nat.reduceEqDiff,reduceIte,Int.reduceEq,reduceCtorEq,g0,g3,fx,zx,List.length_map,h1,hth,AH,hg2,Cd,l2,l3,r1,r2]
           refine Br (fun y e q=>∃ c:Nat,c+y=g.names.length∧q=s.enter∧(∀ a t,a < c→g.names[a]? = some t→t.length≤300)∧e.get 0=fx l∧e.get 3=.i .i64 (i:Nat)∧e.get 4=.i .i64 (c:Nat)) ?_ g.names.length _ _ ?_
           · clear g0 g3
             rintro y e q ⟨c,hcy,rfl,hfc,g0,g3,g4⟩
             by_cases hc:c < g.names.length
             · have c1:((c:Int) < (g.names.length:Int))=True:=eq_true (by omega)
               obtain ⟨t,ht⟩:∃ t,g.names[c]? = some t:=⟨_,List.getElem?_eq_getElem hc⟩
               have ht2:(g.names.map AV.s)[c]? = some (.s t):=by rw [List.getElem?_map,ht]; rfl
               have htm:=List.mem_of_getElem? ht
               have hw2:=Aj (show c+1 < 2^63 by omega)
               by_cases d3:300 < t.length
               · have r3:((300:Int) < (t.length:Int))=True:=eq_true (by omega)
                 rw [NA hgm (by
                  have:(g.names.all fun s=>decide (s.length≤300))=false:=by
                   rw [Bool.eq_false_iff]; intro hh
                   rw [List.all_eq_true] at hh
                   have:=of_decide_eq_true (hh t htm)
                   omega
                  unfold Pe; rw [this,Bool.and_false,Bool.and_false])]
                 simp only [go_sem,AD,AA,AC,AB,KB_n,KB_x,Nat.reduceBEq,Nat.reduceAdd,Nat.reduceLT,Nat.reduceLeDiff,Nat.reduceEqDiff,reduceIte,Int.reduceEq,reduceCtorEq,g0,g3,g4,fx,zx,List.length_map,hth,AH,hg2,Cd,l2,c1,ht2,CN,Dm,r3]
                 exact hbr _
               · have r3:((300:Int) < (t.length:Int))=False:=eq_false (by omega)
                 simp only [go_sem,AD,AA,AC,AB,KB_n,KB_x,Nat.reduceBEq,Nat.reduceAdd,Nat.reduceLT,Nat.reduceLeDiff,Nat.reduceEqDiff,reduceIte,Int.reduceEq,reduceCtorEq,g0,g3,g4,fx,zx,List.length_map,hth,AH,hg2,Cd,l2,c1,ht2,CN,Dm,r3,hw2]
                 refine ⟨y - 1,by omega,c+1,by omega,fun a u ha hu=>?_,rfl⟩
                 rcases Nat.lt_or_ge a c with hlt | hge
                 · exact hfc a u hlt hu
                 · obtain rfl:a=c:=by omega
                   rw [ht] at hu; cases hu
                   omega
             · have c1:((c:Int) < (g.names.length:Int))=False:=eq_false (by omega)
               simp only [go_sem,AD,AA,AC,AB,KB_n,KB_x,Nat.reduceBEq,Nat.reduceAdd,Nat.reduceLT,Nat.reduceLeDiff,Nat.reduceEqDiff,reduceIte,Int.reduceEq,reduceCtorEq,g0,g3,g4,fx,zx,List.length_map,hth,AH,hg2,Cd,l2,c1,hw1]
               refine ⟨x - 1,by omega,i+1,by omega,fun a g' ha hg'=>?_,rfl⟩
               rcases Nat.lt_or_ge a i with hlt | hge
               · exact hfi a g' hlt hg'
               · obtain rfl:a=i:=by omega
                 rw [hg] at hg'; cases hg'
                 unfold Pe
                 rw [decide_eq_true (show g.names.length≤50 by omega),decide_eq_true (show g.kids.length≤50 by omega),Bool.true_and,Bool.true_and,List.all_eq_true]
                 intro u hu
                 obtain ⟨a,ha,rfl⟩:=List.mem_iff_getElem.1 hu
                 exact decide_eq_true (hfc a _ (by omega) (List.getElem?_eq_getElem ha))
           · simp only [go_sem,AD,AA,AC,AB,KB_n,KB_x,Nat.reduceBEq,Nat.reduceAdd,Nat.reduceLT,Nat.reduceLeDiff,Nat.reduceEqDiff,reduceIte,Int.reduceEq,reduceCtorEq]
             exact ⟨0,by omega,fun a t ha=>by omega,rfl,g3,rfl⟩
     · have h1:((i:Int) < (l.length:Int))=False:=eq_false (by omega)
       rw [show Pf l=false by
        unfold Pf
        rw [decide_eq_true (by omega),Bool.true_and]
        have:l.all Pe=true:=by
         rw [List.all_eq_true]
         intro g hg
         obtain ⟨a,ha,rfl⟩:=List.mem_iff_getElem.1 hg
         exact hfi a _ (by omega) (List.getElem?_eq_getElem ha)
        rw [this]; rfl]
       simp only [go_sem,AD,AA,AC,AB,KB_n,KB_x,Nat.reduceBEq,Nat.reduceAdd,Nat.reduceLT,Nat.reduceLeDiff,Nat.reduceEqDiff,reduceIte,Int.reduceEq,reduceCtorEq,g0,g3,fx,List.length_map,h1]
       exact hbr _
   · simp only [go_sem,AD,AA,AC,AB,KB_n,KB_x,Nat.reduceBEq,Nat.reduceAdd,Nat.reduceLT,Nat.reduceLeDiff,Nat.reduceEqDiff,reduceIte,Int.reduceEq,reduceCtorEq]
     exact ⟨0,by omega,fun a g ha=>by omega,rfl,rfl⟩

def DL:ND→Bool
 | .mk k _ _ ks=>decide (k=3)||linkedL ks
where
 linkedL:List ND→Bool
  | []=>false
  | k::ks=>DL k||linkedL ks
theorem NO:∀ ks:List ND,DL.linkedL ks=ks.any DL
 | []=>by simp [DL.linkedL]
 | k::ks=>by rw [DL.linkedL,NO ks,List.any_cons]
theorem LH (x:ND):DL x=(decide (x.kind=3)||x.kids.any DL):=by
 cases x with
 | mk k t ns ks=>rw [DL,NO]; rfl
theorem Ww:∀ n:ND,n.Ok→∀ s,Wf s→(lim prog).call Af [.agg n.cells] s=some (.b (DL n),s):=by
 refine ND.ind fun n ih ho s hw=>?_
 refine fn_W Et rfl rfl ?_
 have H1:=(Hp.begin hw).new (.cells 37 n.cells)
 generalize hq:s.enter.new (.cells 37 n.cells)=q at H1
 generalize hm:s.enter.nb=m at H1
 have l0:=H1.ld 0 (off:=0) (v:=.i .u8 (n.kind:Nat)) rfl rfl
 have l3:=H1.ld 0 (off:=3) (v:=.ws false 4 (n.kids.map ND.av)) rfl rfl
 have hkl:=ho.kids.2
 have hz0:wkZ BE.cin [.agg n.cells]=[.agg n.cells]:=by simp [BE,wkZ,wk,ND.cells]
 rw [hz0,LH]
 by_cases hk:n.kind=3
 · have e0:(((n.kind:Nat):Int)=3)=True:=eq_true (by omega)
   rw [decide_eq_true hk,Bool.true_or]
   simp only [BE,go_sem,AD,AA,AC,AB,KB_n,KB_x,Nat.reduceBEq,Nat.reduceAdd,Nat.reduceLT,Nat.reduceLeDiff,Nat.reduceEqDiff,reduceIte,Int.reduceEq,reduceCtorEq,Ar,hq,hm,l0,Nat.zero_add,e0]
   exact AP H1.over rfl rfl
 · have e0:(((n.kind:Nat):Int)=3)=False:=eq_false (by omega)
   rw [decide_eq_false hk,Bool.false_or]
   simp only [BE,go_sem,AD,AA,AC,AB,KB_n,KB_x,Nat.reduceBEq,Nat.reduceAdd,Nat.reduceLT,Nat.reduceLeDiff,Nat.reduceEqDiff,reduceIte,Int.reduceEq,reduceCtorEq,Ar,hq,hm,l0,Nat.zero_add,e0]
   refine Br (fun x e q'=>∃ i:Nat,i+x=n.kids.length∧q'=q∧(∀ k∈n.kids.take i,DL k=false)∧e.get 1=.p m 0∧e.get 3=.i .i64 (i:Nat)) ?_ n.kids.length _ _ ⟨0,by omega,rfl,by simp,by simp only [go_sem,AD,AA,AC,AB,KB_n,KB_x,Nat.reduceBEq,Nat.reduceAdd,Nat.reduceLT,Nat.reduceLeDiff,Nat.reduceEqDiff,reduceIte,Int.reduceEq,reduceCtorEq],by simp only [go_sem,AD,AA,AC,AB,KB_n,KB_x,Nat.reduceBEq,Nat.reduceAdd,Nat.reduceLT,Nat.reduceLeDiff,Nat.reduceEqDiff,reduceIte,Int.reduceEq,reduceCtorEq]; rfl⟩
   rintro x e q' ⟨i,hi,rfl,hno,g1,g3⟩
   by_cases h:i < n.kids.length
   · have e1:((i:Int) < (n.kids.length:Int))=True:=eq_true (by omega)
     obtain ⟨k,hk1⟩:∃ k,n.kids[i]? = some k:=⟨_,List.getElem?_eq_getElem h⟩
     have hmem:k∈n.kids:=List.mem_of_getElem? hk1
     have hget:=Hu hk1
     have hc:=ih k hmem (ho.kids.1 k hmem) q' H1.wf
     have hw1:=Aj (show i+1 < 2^63 by omega)
     have hld:ldA q' true 4 (.ep k.cells 0 .shut)=some (.agg k.cells):=rfl
     cases hl:DL k with
     | true =>
       rw [hl] at hc
       have:n.kids.any DL=true:=List.any_eq_true.2 ⟨k,hmem,hl⟩
       rw [this]
       simp only [go_sem,AD,AA,AC,AB,KB_n,KB_x,Nat.reduceBEq,Nat.reduceAdd,Nat.reduceLT,Nat.reduceLeDiff,Nat.reduceEqDiff,reduceIte,Int.reduceEq,reduceCtorEq,g1,g3,l3,List.length_map,e1,AH,hget,hld,AX,hc,Nat.zero_add]
       exact AP H1.over rfl rfl
     | false =>
       rw [hl] at hc
       simp only [go_sem,AD,AA,AC,AB,KB_n,KB_x,Nat.reduceBEq,Nat.reduceAdd,Nat.reduceLT,Nat.reduceLeDiff,Nat.reduceEqDiff,reduceIte,Int.reduceEq,reduceCtorEq,g1,g3,l3,List.length_map,e1,AH,hget,hld,AX,hc,hw1,Nat.zero_add]
       refine ⟨x - 1,by omega,i+1,by omega,fun y hy=>?_,rfl⟩
       rw [List.take_add_one,hk1] at hy
       rcases List.mem_append.1 hy with hy | hy
       · exact hno y hy
       · simp only [Option.toList_some,List.mem_singleton] at hy
         subst hy; exact hl
   · have e1:((i:Int) < (n.kids.length:Int))=False:=eq_false (by omega)
     have:n.kids.any DL=false:=by
      rw [List.any_eq_false]
      intro k hk
      have:=hno k (by rw [List.take_of_length_le (by omega)]; exact hk)
      rw [this]; simp
     rw [this]
     simp only [go_sem,AD,AA,AC,AB,KB_n,KB_x,Nat.reduceBEq,Nat.reduceAdd,Nat.reduceLT,Nat.reduceLeDiff,Nat.reduceEqDiff,reduceIte,Int.reduceEq,reduceCtorEq,g1,g3,l3,List.length_map,e1,Nat.zero_add]
     exact AP H1.over rfl rfl
end Go.Proofs.YtgloinighjdhlaaGreat

set_option maxHeartbeats 8000000
namespace Go.Proofs.YtgloinighjdhlaaGreat
open Go.Proofs.YtgloinighjdhlaaGreat.Am
noncomputable def dq (f:Nat):Fun:={ cin:=[],cout:=[],ntmps:=0,keep:=false,res:=[],body:=.bad,prim:=some (delegQ prog [] f) }
noncomputable def Aq (n:Nat):Option Fun :=
 if n=Bm then some AF else
 if n=BK then some BN else
 if n=Db then some Dd else
 if n=BX then some Aa else
 if n=Ay then some BA else
 if n=Az then some BB else
 if n=AZ then some BC else
 if n=D6 then some DE else
 if n=Bu then some CS else
 if n=Eo then some C9 else
 if n=Co then some Bn else
 if n=Cp then some DI else
 if n=EE then some Ck else
 if n=CV then some BF else
 if n=CW then some Cx else
 if n=Ep then some DA else
 if n=Cq then some Bo else
 if n=Cr then some DJ else
 if n=Cn then some BR else
 if n=Fb then some Dg else
 if n=AN then some AG else
 if n=Ax then some AU else
 if n=Ae then some AQ else
 if n=BJ then some Cl else
 if n=Aw then some (dq Aw) else
 if n=Af then some (dq Af) else
 if n=A1 then some (dq A1) else
 if n=Ad then some (dq Ad) else
 if n=CO then some (dq CO) else
 if n=DQ then some (dq DQ) else
 if n=DG then some (dq DG) else
 if n=Cj then some (dq Cj) else none
theorem Gf:Aq Bm=some AF:=rfl
theorem HM:Aq BK=some BN:=rfl
theorem Q0:Aq Db=some Dd:=rfl
theorem GX:Aq BX=some Aa:=rfl
theorem Ik:Aq Ay=some BA:=rfl
theorem Il:Aq Az=some BB:=rfl
theorem Im:Aq AZ=some BC:=rfl
theorem Pg:Aq D6=some DE:=rfl
theorem NB:Aq Bu=some CS:=rfl
theorem Ph:Aq Eo=some C9:=rfl
theorem NC:Aq Co=some Bn:=rfl
theorem NE:Aq Cp=some DI:=rfl
theorem N4:Aq EE=some Ck:=rfl
theorem Lr:Aq CV=some BF:=rfl
theorem Ls:Aq CW=some Cx:=rfl
theorem Pj:Aq Ep=some DA:=rfl
theorem NF:Aq Cq=some Bo:=rfl
theorem NG:Aq Cr=some DJ:=rfl
theorem NH:Aq Cn=some BR:=rfl
theorem Q1:Aq Fb=some Dg:=rfl
theorem Dl:Aq AN=some AG:=rfl
theorem FB:Aq Ax=some AU:=rfl
theorem FC:Aq Ae=some AQ:=rfl
theorem HN:Aq BJ=some Cl:=rfl
theorem Ht:Aq Aw=some (dq Aw):=rfl
theorem Gw:Aq Af=some (dq Af):=rfl
theorem IL:Aq A1=some (dq A1):=rfl
theorem HO:Aq Ad=some (dq Ad):=rfl
theorem N5:Aq CO=some (dq CO):=rfl
theorem UN:Aq DQ=some (dq DQ):=rfl
theorem Q2:Aq DG=some (dq DG):=rfl
theorem N6:Aq Cj=some (dq Cj):=rfl
/-! ### What is told -/
theorem GY {α:Type} (f:α→AV):∀ l:List α,(∀ x∈l,Cs (f x)=some (f x))→Ey (l.map f)=some (l.map f)
 | [],_=>rfl
 | x::l,h=>by
   rw [List.map_cons,Ey,h x (by simp),GY f l fun y hy=>h y (by simp [hy])]
theorem Ev {α:Type} (f:α→AV) (n:Nat):∀ l:List α,(∀ x∈l,(f x).cells.length=n∧ones (f x).cells=true)→Ah n (l.map f)=true
 | [],_=>rfl
 | x::l,h=>by
   rw [List.map_cons,Ah,Ev f n l fun y hy=>h y (by simp [hy])]
   obtain ⟨h1,h2⟩:=h x (by simp)
   simp [h1,h2]
theorem WY (L:List (List Nat)):Cs (tx L)=some (tx L):=by
 have h1:=GY AV.s L fun _ _=>rfl
 have h2:=Ev AV.s 1 L fun _ _=>⟨rfl,rfl⟩
 simp only [tx,Cs,h1,h2,if_true]
theorem b6 (L:List Int):Cs (zx L)=some (zx L):=by
 have h1:=GY iv L fun _ _=>rfl
 have h2:=Ev iv 1 L fun _ _=>⟨rfl,rfl⟩
 simp only [zx,Cs,h1,h2,if_true]
theorem Bt {a b:AV} {l l':List AV} (h:Cs a=some b) (hl:Ey l=some l'):Ey (a::l)=some (b::l'):=by rw [Ey,h,hl]
theorem Pk {l l':List AV} (h:Ey l=some l'):Cs (.agg l)=some (.agg l'):=by rw [Cs,h]
theorem WZ (f:FT):Cs f.av=some f.av :=
 Pk (Bt rfl (Bt rfl (Bt (WY f.names) (Bt (b6 f.kids) (Bt rfl (Bt rfl rfl))))))
theorem SE (l:List FT):Cs (fx l)=some (fx l):=by
 have h1:=GY FT.av l fun f _=>WZ f
 have h2:=Ev FT.av 6 l fun _ _=>⟨rfl,rfl⟩
 simp only [fx,Cs,h1,h2,if_true]
theorem b7:∀ n:ND,Cs n.av=some n.av:=by
 refine ND.ind fun n ih=>?_
 have h0:=WY n.names
 have h1:=GY ND.av n.kids ih
 have h2:=Ev ND.av 4 n.kids fun k _=>by rw [ND.av_eq]; exact ⟨rfl,rfl⟩
 rw [ND.av_eq]
 refine Pk (Bt rfl (Bt rfl (Bt h0 (Bt ?_ rfl))))
 simp only [Cs,h1,h2,if_true]
theorem KU (n:ND):Cs (.agg n.cells)=some (.agg n.cells):=by rw [← ND.av_eq]; exact b7 n
def TU (s:St) (a:AV) (l:List FT):Prop:=∃ a1 s1,Tz s a=some (a1,s1)∧Cs a1=some (fx l)
theorem Q3 (l:List FT) (s:St):TU s (fx l) l:=⟨fx l,s,rfl,SE l⟩
theorem UO (n:ND) (s:St):Tz s (.agg n.cells)=some (.agg n.cells,s):=rfl
theorem Io (l:List AV):wkZ [] l=l:=by cases l<;>simp [wkZ]
theorem wf0:Wf s0:=⟨rfl,rfl⟩
/-! ### Functions that are told -/
theorem Wa {s:St} {a:AV} {l:List FT} {b:ND} (ha:TU s a l) (ho:FOk l) (hb:b.Ok) (hn:nodesN b < 2^62):(lim Aq).call CO [a,.agg b.cells] s=some (.b (Bq l b),s):=by
 obtain ⟨a1,s1,h1,h2⟩:=ha
 rw [Dq N5 rfl]
 exact HX (a1:=[a1,.agg b.cells]) (a2:=[fx l,.agg b.cells]) (s1:=s1) (by simp only [JF,h1,UO]) (by simp only [Io,Ey,h2,KU]) (holds_ok l ho b hb hn s0 wf0)
theorem b8 {s:St} {a:AV} {l:List FT} (ha:TU s a l) (ho:FOk l):(lim Aq).call DQ [a] s=some (.b (mayP l),s):=by
 obtain ⟨a1,s1,h1,h2⟩:=ha
 rw [Dq UN rfl]
 exact HX (a1:=[a1]) (a2:=[fx l]) (s1:=s1) (by simp only [JF,h1]) (by simp only [Io,Ey,h2]) (WT l ho.ok ho.len ho.fl s0 wf0)
theorem d_may7 {s:St} {b:ND} (hb:b.Ok) (hn:nodesN b < 2^62):(lim Aq).call A1 [.agg b.cells] s=some (.b (mayN b),s):=by
 rw [Dq IL rfl]
 exact HX (a1:=[.agg b.cells]) (a2:=[.agg b.cells]) (s1:=s) rfl (by simp only [Io,Ey,KU]) (UZ b hb hn s0 wf0)
theorem Yv {s:St} {b:ND} (hb:b.Ok) (hn:nodesN b < 2^62):(lim Aq).call Ad [.agg b.cells] s=some (.i .i64 (nodesN b:Nat),s):=by
 rw [Dq HO rfl]
 exact Xn (a1:=[.agg b.cells]) (a2:=[.agg b.cells]) (s1:=s) rfl (by simp only [Io,Ey,KU]) (Li b hb hn s0 wf0)
theorem d_long {s:St} {l:List FT} (ho:FOk l):(lim Aq).call Aw [fx l] s=some (.b (Pf l),s):=by
 rw [Dq Ht rfl]
 exact HX (a1:=[fx l]) (a2:=[fx l]) (s1:=s) rfl (by simp only [Io,Ey,SE]) (Yu l ho.ok s0 wf0)
theorem OV (f:FT):Cs (.agg f.cells)=some (.agg f.cells):=WZ f
theorem d_dir {s:St} (f:FT):(lim Aq).call DG [.agg f.cells] s=some (.b f.isDir,s):=by
 rw [Dq Q2 rfl]
 exact HX (a1:=[.agg f.cells]) (a2:=[.agg f.cells]) (s1:=s) rfl (by simp only [Io,Ey,OV]) (SB f s0 wf0)
theorem b9 {s:St} {l:List FT} (hm:mayP l=true) {i:Nat} {f:FT} (hf:l[i]? = some f) (hfo:f.Ok) (hb0:0≤f.beside) (hb1:f.beside≤(f.kids.length:Int)):(lim Aq).call Cj [fx l,.agg f.cells] s=some (.b (HL l f),s):=by
 rw [Dq N6 rfl]
 exact HX (a1:=[fx l,.agg f.cells]) (a2:=[fx l,.agg f.cells]) (s1:=s) rfl (by simp only [Io,Ey,SE,OV]) (Yt hm hf hfo hb0 hb1 s0 wf0)
theorem cA (s:St):(lim Aq).call BJ [] s=some (.b true,s):=WC HN rfl rfl
theorem Yw {s:St} {b:ND} (hb:b.Ok):(lim Aq).call Af [.agg b.cells] s=some (.b (DL b),s):=by
 rw [Dq Gw rfl]
 exact HX (a1:=[.agg b.cells]) (a2:=[.agg b.cells]) (s1:=s) rfl (by simp only [Io,Ey,KU]) (Ww b hb s0 wf0)

section
variable {s0 s q:St} {n:En} {R R':List RA} {B B':List (Nat×Box)}
theorem Ti {α:Type} {P:α→α→Prop} (hs:∀ x y,P x y→P y x) {l:List α} (h:l.Pairwise P) {i j:Nat} {x y:α} (hne:i≠j) (hx:l[i]? = some x) (hy:l[j]? = some y):P x y:=by
 rw [List.pairwise_iff_getElem] at h
 obtain ⟨h1,rfl⟩:=List.getElem?_eq_some_iff.1 hx
 obtain ⟨h2,rfl⟩:=List.getElem?_eq_some_iff.1 hy
 rcases Nat.lt_or_gt_of_ne hne with hl | hl
 · exact h i j h1 h2 hl
 · exact hs _ _ (h j i h2 h1 hl)
theorem XS {α:Type} {P:α→α→Prop} {l:List α} (h:∀ {i j:Nat} {x y:α},i≠j→l[i]? = some x→l[j]? = some y→P x y):l.Pairwise P:=by
 rw [List.pairwise_iff_getElem]
 intro i j hi hj hl
 exact h (by omega) (List.getElem?_eq_getElem hi) (List.getElem?_eq_getElem hj)
theorem _root_.Go.Proofs.YtgloinighjdhlaaGreat.Am.Hp.perm (H:Hp s0 s n R B) (hR:R.Perm R') (hB:B.Perm B'):Hp s0 s n R' B' where
 wf:=H.wf
 over:=H.over
 lo:=H.lo
 nb:=H.nb
 nt:=H.nt
 rows:=fun {i r} hr=>by
  have hm:=hR.symm.subset (List.mem_of_getElem? hr)
  obtain ⟨j,hj,rfl⟩:=List.mem_iff_getElem.1 hm
  exact H.rows (List.getElem?_eq_getElem hj)
 apart:=fun {i j r r' k} hne h1 h2 hk=>by
  have hp:R.Pairwise (fun r r'=>∀ k,Au r.a=some k→Au r'.a≠some k):=XS fun hne h1 h2 k hk=>H.apart hne h1 h2 hk
  have hs:∀ (r r':RA),(∀ k,Au r.a=some k→Au r'.a≠some k)→(∀ k,Au r'.a=some k→Au r.a≠some k):=fun r r' h k h1 h2=>h k h2 h1
  exact Ti hs (hR.pairwise hp fun {x y} h=>hs x y h) hne h1 h2 k hk
 box:=fun {i p} hp=>by
  have hm:=hB.symm.subset (List.mem_of_getElem? hp)
  obtain ⟨j,hj,rfl⟩:=List.mem_iff_getElem.1 hm
  exact H.box (List.getElem?_eq_getElem hj)
 bapart:=fun {i j p q} hne h1 h2=>by
  have hp:B.Pairwise (fun p q=>p.1≠q.1):=XS fun hne h1 h2=>H.bapart hne h1 h2
  exact Ti (P:=fun p q:Nat×Box=>p.1≠q.1) (fun p q h e=>h e.symm) (hB.pairwise hp fun {x y} h e=>h e.symm) hne h1 h2
theorem _root_.Go.Proofs.YtgloinighjdhlaaGreat.Am.Hp.back {R0:List RA} {B0:List (Nat×Box)} (H0:Hp s0 s n R0 B0) (H:Hp s0 q s.en R B):Hp s0 { q with lo:=min s.lo q.lo } n R B where
 wf:=H.wf.lo _
 over:=H.over.setLo (by have:=H0.over.lo; have:=H.over.lo; omega)
 lo:=by have:=H0.lo; simp only; omega
 nb:=by have h1:=H0.nb; have h2:=H.nb; simp only [St.en] at h2 ⊢; omega
 nt:=by have h1:=H0.nt; have h2:=H.nt; simp only [St.en] at h2 ⊢; omega
 rows:=fun h=>(H.rows h).mono (Nat.le_refl _) fun _ _=>rfl
 apart:=H.apart
 box:=H.box
 bapart:=H.bapart
theorem SY:∀ {a b:List AV},ones a=true→ones b=true→ones (a++b)=true
 | [],_,_,h=>h
 | x::a,b,h,k=>by
   cases x<;>first | (simp [ones] at h; done) | exact SY (a:=a) (by simpa only [ones] using h) k
theorem Zv {es:Nat}:∀ {xs:List AV},(∀ x∈xs,x.cells.length=es∧ones x.cells=true)→(Cc xs).length=xs.length*es∧ones (Cc xs)=true
 | [],_=>by simp [Cc,ones]
 | x::xs,h=>by
   obtain ⟨h1,h2⟩:=Zv (xs:=xs) fun y hy=>h y (by simp [hy])
   obtain ⟨h3,h4⟩:=h x (by simp)
   simp only [Cc]
   refine ⟨by rw [List.length_append,h1,h3,List.length_cons,Nat.add_mul]; omega,?_⟩
   exact SY h4 h2
theorem _root_.Go.Proofs.YtgloinighjdhlaaGreat.Am.Hp.stR (H:Hp s0 s n R B) (i:Nat) {id T off:Nat} {cs:List AV} {v:AV} (h:B[i]? = some (id,.row T cs false 0)) (hoff:off < cs.length) (hv:v.cells=[v]∧ones [v]=true) :
    ∃ s',stA s 1 (.p id off) v=some s'∧Hp s0 s' n R (B.set i (id,.row T (cs.set off v) false 0)):=by
 have hb:(B.set i (id,Box.row T (cs.set off v) false 0))[i]? = some (id,.row T (cs.set off v) false 0):=by
  rw [List.getElem?_set,if_pos rfl,if_pos (by rw [List.getElem?_eq_some_iff] at h; exact h.1)]
 obtain ⟨h1,h2,h3⟩:=(H.setBox h (.row T (cs.set off v) false 0)).esc hb v
 refine ⟨_,?_,h1⟩
 have hbx:=(H.box h).1
 simp only at hbx
 have:Am.overR cs off [v] 0=some (cs.set off v):=by
  unfold Am.overR
  rw [if_pos ⟨by omega,by simp; omega⟩,List.set_eq_take_append_cons_drop,if_pos hoff]; rfl
 simp only [stA,hbx,hv.1,hv.2,List.length_cons,List.length_nil,Nat.zero_add,and_self,if_true,this]
theorem _root_.Go.Proofs.YtgloinighjdhlaaGreat.Am.Hp.ldR (H:Hp s0 s n R B) (i:Nat) {id T off:Nat} {cs:List AV} {v:AV} (h:B[i]? = some (id,.row T cs false 0)) (hc:cs[off]? = some v):ldA s false 1 (.p id off)=some v:=by
 have hbx:=(H.box h).1
 simp only at hbx
 simp only [ldA,St.cells?,hbx,cut]
 have:(cs.drop off).take 1=[v]:=by
  rw [List.take_one,List.head?_drop,hc]; rfl
 simp [this,scal]
end
structure KQ where
 f:FT
 nm:AV
 a:AV
def KQ.cells (p:KQ):List AV:=[.b p.f.known,.i .u8 (p.f.kind:Nat),p.nm,p.a,.i .i64 p.f.rest,.i .i64 p.f.beside]
def KQ.av (p:KQ):AV:=.agg p.cells
def Cok (a:AV) (xs:List AV):Prop:=Au a=none→Ca 1 a xs
def KQ.ok (p:KQ):Prop:=Cok p.nm (p.f.names.map .s)∧Cok p.a (p.f.kids.map iv)
def KOk (K:List KQ):Prop:=∀ p∈K,p.ok
def N8 (f:FT):KQ:=⟨f,tx f.names,zx f.kids⟩
theorem Tj {a:AV} {xs:List AV} (h:Cok a xs) (l:List AV):ones (a::l)=ones l:=by
 cases hr:Au a with
 | none=>exact (h hr).ones l
 | some k =>
   unfold Au at hr
   split at hr
   · rfl
   · cases hr
theorem cR (l:List FT):(l.map N8).map KQ.av=l.map FT.av:=by
 rw [List.map_map]; rfl
theorem base_f (l:List FT):(l.map N8).map KQ.f=l:=by
 rw [List.map_map]
 show l.map (fun f=>f)=l
 simp
theorem KOk.cells {K:List KQ} (h:KOk K):∀ x∈K.map KQ.av,x.cells.length=6∧ones x.cells=true:=by
 intro x hx
 obtain ⟨p,hp,rfl⟩:=List.mem_map.1 hx
 obtain ⟨h1,h2⟩:=h p hp
 refine ⟨rfl,?_⟩
 show ones (AV.b p.f.known::AV.i .u8 (p.f.kind:Nat)::p.nm::p.a::[.i .i64 p.f.rest,.i .i64 p.f.beside])=true
 simp only [ones,Tj h1,Tj h2]
theorem KOk.set {K:List KQ} (h:KOk K) {i:Nat} {p:KQ} (hp:p.ok):KOk (K.set i p):=fun q hq=>by
 rcases List.mem_or_eq_of_mem_set hq with hq | rfl
 · exact h q hq
 · exact hp
theorem Zw:∀ K:List KQ,Gn 6 K.length (Cc (K.map KQ.av))=K.map KQ.av
 | []=>rfl
 | p::K=>by
   have h:=Zw K
   rw [List.map_cons,Cc,List.length_cons,Gn,if_neg (by decide)]
   have h1:(p.av.cells++Cc (K.map KQ.av)).take 6=p.cells:=rfl
   have h2:(p.av.cells++Cc (K.map KQ.av)).drop 6=Cc (K.map KQ.av):=rfl
   rw [h1,h2,h]; rfl
theorem NY {K:List KQ} {i j:Nat} {p:KQ} {v:AV} (h:K[i]? = some p) (hj:p.cells[j]? = some v):(Cc (K.map KQ.av))[i*6+j]? = some v:=by
 induction K generalizing i with
 | nil=>simp at h
 | cons p0 K ih =>
   rw [List.map_cons,Cc]
   have hj6:j < 6:=(List.getElem?_eq_some_iff.1 hj).1
   cases i with
   | zero =>
     simp only [List.getElem?_cons_zero,Option.some.injEq] at h; subst h
     rw [Nat.zero_mul,Nat.zero_add,List.getElem?_append_left (by exact hj6)]
     exact hj
   | succ i =>
     rw [List.getElem?_append_right (by show 6≤_; omega)]
     rw [show (i+1)*6+j - p0.av.cells.length=i*6+j by show (i+1)*6+j - 6=_; omega]
     exact ih (by simpa using h)
theorem Pt {K:List KQ} {i j:Nat} {p g:KQ} {v:AV} (h:K[i]? = some p) (hj:j < 6) (hg:p.cells.set j v=g.cells):(Cc (K.map KQ.av)).set (i*6+j) v=Cc ((K.set i g).map KQ.av):=by
 induction K generalizing i with
 | nil=>simp at h
 | cons p0 K ih =>
   rw [List.map_cons,Cc]
   cases i with
   | zero =>
     simp only [List.getElem?_cons_zero,Option.some.injEq] at h; subst h
     rw [Nat.zero_mul,Nat.zero_add,List.set_append,if_pos (by exact hj),List.set_cons_zero,List.map_cons,Cc]
     congr 1
   | succ i =>
     rw [List.set_append,if_neg (by show ¬ _ < 6; omega),List.set_cons_succ,List.map_cons,Cc]
     rw [show (i+1)*6+j - p0.av.cells.length=i*6+j by show (i+1)*6+j - 6=_; omega]
     rw [ih (by simpa using h)]
theorem NZ (K:List KQ):(Cc (K.map KQ.av)).length=K.length*6:=by
 induction K with
 | nil=>rfl
 | cons p K ih=>rw [List.map_cons,Cc,List.length_append,ih,List.length_cons]; show 6+_=_; omega
section
variable {s0 s:St} {n:En} {R:List RA} {B:List (Nat×Box)}
end
end Go.Proofs.YtgloinighjdhlaaGreat

namespace Go.Proofs.YtgloinighjdhlaaGreat
open Go.Proofs.YtgloinighjdhlaaGreat.Am
theorem OW (s:St):(lim Aq).call AN [tx []] s=some (.ws true 1 [],{ s with lo:=min s.lo s.nb }):=by
 rw [Fk]
 unfold Gp
 rw [Dl]
 have h1:wkZ AG.cin [tx []]=[.ws false 1 []]:=by
  simp [AG,wkZ,wk,wkM]
 have h2:both AG [.ws false 1 []]=some (.ws true 1 []):=by rfl
 have h3:Nat.ble [tx []].length AG.ntmps=true:=rfl
 have h4:AG.prim=none:=rfl
 simp only [h4,h3,h1,h2]
theorem NI (x:List Nat) (L:List (List Nat)) (hL:(x::L).length < 2^38) (s:St) :
    (lim Aq).call AN [tx (x::L)] s=some (.sl 1 ((x::L).map .s) (.tok s.nt 0),{ s.newTok (x::L).length (some 9) with lo:=min s.lo s.nb }):=by
 have h1:wkZ AG.cin [tx (x::L)]=[tx (x::L)]:=by
  have:=(VE (x::L)).wk
  simp only [AG,wkZ,this]
 obtain ⟨r,s',hc,rfl,rfl⟩:=fn_K (t:=2) (s:=s) (args:=[tx (x::L)]) (Post:=fun r s'=>r=.sl 1 ((x::L).map .s) (.tok s.nt 0)∧s'={ s.newTok (x::L).length (some 9) with lo:=min s.lo s.nb }) Dl rfl rfl rfl (by rw [h1]; rfl) (by
  rw [h1]
  have heq:eqS (tx (x::L)) .nsl=some false:=rfl
  have ha:appA s.enter 1 9 (.sl 1 [] .full) (tx (x::L))=some (.sl 1 ((x::L).map .s) (.tok s.nt 0),s.enter.newTok (x::L).length (some 9)):=by
   simp only [tx,List.map_cons,appA,elems,if_true,List.nil_append,List.length_nil,Nat.zero_add,true_and]
   rw [if_pos (by simpa using hL)]
   simp [St.enter]
  have hal:Ah 1 []=true:=rfl
  simp only [AG,go_sem,Al,AL,AK,AM,Ak,KB_n,KB_x,Nat.reduceBEq,Nat.reduceAdd,Nat.reduceLT,Nat.reduceLeDiff,Nat.reduceEqDiff,reduceIte,Int.reduceEq,reduceCtorEq,heq,hal,Yg,ha,KK_n,KK_r]
  rfl)
 exact hc
theorem We {s0 s:St} {n:En} {R:List RA} {B:List (Nat×Box)} (H:Hp s0 s n R B) (L:List (List Nat)) (hL:L.length < 2^38) :
    ∃ r s',(lim Aq).call AN [tx L] s=some (r,s')∧Hp s0 s' n (⟨1,9,r,L.map .s,true⟩::R) B∧s'.nb=s.nb:=by
 have hlo:=H.lo
 have h1:=H.over.lo
 have h2:=H.over.nb
 cases L with
 | nil =>
   refine ⟨_,_,OW s,?_,rfl⟩
   exact (H.setLo (m:=min s.lo s.nb) (by omega) (by omega)).addFull 1 9 true .ws
 | cons x L =>
   refine ⟨_,_,NI x L hL s,?_,rfl⟩
   have:=H.newTok 1 9 ((x::L).map .s)
   rw [List.length_map] at this
   exact this.setLo (m:=min s.lo s.nb) (by omega) (by omega)
theorem NJ (s:St):(lim Aq).call Ax [zx []] s=some (.ws true 1 [],{ s with lo:=min s.lo s.nb }):=by
 rw [Fk]
 unfold Gp
 rw [FB]
 have h1:wkZ AU.cin [zx []]=[.ws false 1 []]:=by
  simp [AU,wkZ,wk,wkM,zx]
 have h2:both AU [.ws false 1 []]=some (.ws true 1 []):=by rfl
 have h3:Nat.ble [zx []].length AU.ntmps=true:=rfl
 have h4:AU.prim=none:=rfl
 simp only [h4,h3,h1,h2]
theorem Lb (x:Int) (L:List Int) (hL:(x::L).length < 2^38) (s:St) :
    (lim Aq).call Ax [zx (x::L)] s=some (.sl 1 ((x::L).map iv) (.tok s.nt 0),{ s.newTok (x::L).length (some 3) with lo:=min s.lo s.nb }):=by
 have h1:wkZ AU.cin [zx (x::L)]=[zx (x::L)]:=by
  simp only [AU,wkZ,zx,wk]
 obtain ⟨r,s',hc,rfl,rfl⟩:=fn_K (t:=2) (s:=s) (args:=[zx (x::L)]) (Post:=fun r s'=>r=.sl 1 ((x::L).map iv) (.tok s.nt 0)∧s'={ s.newTok (x::L).length (some 3) with lo:=min s.lo s.nb }) FB rfl rfl rfl (by rw [h1]; rfl) (by
  rw [h1]
  have heq:eqS (zx (x::L)) .nsl=some false:=rfl
  have ha:appA s.enter 1 3 (.sl 1 [] .full) (zx (x::L))=some (.sl 1 ((x::L).map iv) (.tok s.nt 0),s.enter.newTok (x::L).length (some 3)):=by
   simp only [zx,List.map_cons,appA,elems,if_true,List.nil_append,List.length_nil,Nat.zero_add,true_and]
   rw [if_pos (by simpa using hL)]
   simp [St.enter]
  have hal:Ah 1 []=true:=rfl
  simp only [AU,go_sem,Al,AL,AK,AM,Ak,KB_n,KB_x,Nat.reduceBEq,Nat.reduceAdd,Nat.reduceLT,Nat.reduceLeDiff,Nat.reduceEqDiff,reduceIte,Int.reduceEq,reduceCtorEq,heq,hal,Yg,ha,KK_n,KK_r]
  rfl)
 exact hc
theorem UP {s0 s:St} {n:En} {R:List RA} {B:List (Nat×Box)} (H:Hp s0 s n R B) (L:List Int) (hL:L.length < 2^38) :
    ∃ r s',(lim Aq).call Ax [zx L] s=some (r,s')∧Hp s0 s' n (⟨1,3,r,L.map iv,true⟩::R) B∧s'.nb=s.nb:=by
 have hlo:=H.lo
 have h1:=H.over.lo
 have h2:=H.over.nb
 cases L with
 | nil =>
   refine ⟨_,_,NJ s,?_,rfl⟩
   exact (H.setLo (m:=min s.lo s.nb) (by omega) (by omega)).addFull 1 3 true .ws
 | cons x L =>
   refine ⟨_,_,Lb x L hL s,?_,rfl⟩
   have:=H.newTok 1 3 ((x::L).map iv)
   rw [List.length_map] at this
   exact this.setLo (m:=min s.lo s.nb) (by omega) (by omega)

attribute [local irreducible] W WO WE WQ WD Tr.get Tr.set
theorem UQ {s0 s:St} {n:En} {R:List RA} {B:List (Nat×Box)} (H:Hp s0 s n R B) (l:List FT) (hne:l≠[]) (hl:l.length < 2^34) :
    ∃ r s',(lim Aq).call Ae [fx l] s=some (r,s')∧Hp s0 s' n (⟨6,48,r,l.map FT.av,true⟩::R) B∧s'.nb=s.nb∧Au r≠none:=by
 have hlo:=H.lo
 have g1:=H.over.lo
 have g2:=H.over.nb
 have h1:wkZ AQ.cin [fx l]=[fx l]:=by simp only [AQ,wkZ,fx,wk]
 obtain ⟨r,s',hc,rfl,rfl⟩:=fn_K (t:=2) (s:=s) (args:=[fx l]) (Post:=fun r s'=>r=.sl 6 (l.map FT.av) (.tok s.nt 0)∧s'={ s.newTok l.length (some 48) with lo:=min s.lo s.nb }) FC rfl rfl rfl (by
     rw [h1]
     cases l with
     | nil=>exact absurd rfl hne
     | cons f t=>rfl) (by
  rw [h1]
  have heq:eqS (fx l) .nsl=some false:=by
   cases l with
   | nil=>exact absurd rfl hne
   | cons f t=>rfl
  have ha:appA s.enter 6 48 (.sl 6 [] .full) (fx l)=some (.sl 6 (l.map FT.av) (.tok s.nt 0),s.enter.newTok l.length (some 48)):=by
   cases l with
   | nil=>exact absurd rfl hne
   | cons f t =>
     simp only [fx,List.map_cons,appA,elems,if_true,List.nil_append,List.length_nil,Nat.zero_add,true_and]
     rw [if_pos (by simp at hl ⊢; omega)]
     simp [St.enter]
  have hal:Ah 6 []=true:=rfl
  simp only [AQ,go_sem,AD,AA,AC,AB,KB_n,KB_x,Nat.reduceBEq,Nat.reduceAdd,Nat.reduceLT,Nat.reduceLeDiff,Nat.reduceEqDiff,reduceIte,Int.reduceEq,reduceCtorEq,heq,hal,ha,KK_n,KK_r]
  rfl)
 refine ⟨_,_,hc,?_,rfl,by simp [Au]⟩
 have:=H.newTok 6 48 (l.map FT.av)
 rw [List.length_map] at this
 exact this.setLo (m:=min s.lo s.nb) (by omega) (by omega)
end Go.Proofs.YtgloinighjdhlaaGreat

namespace Go.Proofs.YtgloinighjdhlaaGreat
open Go.Proofs.YtgloinighjdhlaaGreat.Am
def cb (T:Nat) (a:AV) (xs:List AV):List (Nat×Box):=match a with
 | .bl id _ _ _ _=>[(id,.row T xs false 0)]
 | _=>[]
def okC (a:AV) (xs:List AV):Prop:=(∃ id,a=.bl id 1 0 xs.length (xs.length,false))∨(a=.ws true 1 []∧xs=[])
def bx1 (p:KQ):List (Nat×Box):=cb 9 p.nm (p.f.names.map .s)++cb 3 p.a (p.f.kids.map iv)
def bxs (K:List KQ):List (Nat×Box):=K.flatMap bx1
def KBk (K:List KQ):Prop:=∀ p∈K,okC p.nm (p.f.names.map .s)∧okC p.a (p.f.kids.map iv)
theorem cB {T:Nat} {a:AV} {xs ys:List AV} (h:Ca 1 a ys):cb T a xs=[]:=by
 rcases h with ⟨rfl,_⟩ | ⟨rfl,_⟩ | rfl | rfl | rfl | rfl<;>rfl
theorem TV {a:AV} {xs:List AV} (h:okC a xs) (l:List AV):ones (a::l)=ones l:=by
 rcases h with ⟨id,rfl⟩ | ⟨rfl,rfl⟩
 · rfl
 · rfl
theorem Q4 {a:AV} {xs:List AV} (h:okC a xs):a.cells=[a]∧ones [a]=true:=by
 rcases h with ⟨id,rfl⟩ | ⟨rfl,rfl⟩
 · exact ⟨rfl,rfl⟩
 · exact ⟨rfl,rfl⟩
theorem KBk.cells {K:List KQ} (h:KBk K):∀ x∈K.map KQ.av,x.cells.length=6∧ones x.cells=true:=by
 intro x hx
 obtain ⟨p,hp,rfl⟩:=List.mem_map.1 hx
 obtain ⟨h1,h2⟩:=h p hp
 refine ⟨rfl,?_⟩
 show ones (AV.b p.f.known::AV.i .u8 (p.f.kind:Nat)::p.nm::p.a::[.i .i64 p.f.rest,.i .i64 p.f.beside])=true
 simp only [ones,TV h1,TV h2]
theorem KBk.set {K:List KQ} (h:KBk K) {i:Nat} {p:KQ} (hp:okC p.nm (p.f.names.map .s)∧okC p.a (p.f.kids.map iv)):KBk (K.set i p):=fun q hq=>by
 rcases List.mem_or_eq_of_mem_set hq with hq | rfl
 · exact h q hq
 · exact hp
theorem Yx (l:List FT):bxs (l.map N8)=[]:=by
 induction l with
 | nil=>rfl
 | cons f l ih =>
   show bx1 (N8 f)++bxs (l.map N8)=[]
   rw [ih]; rfl
theorem Yy {α β:Type} {φ:α→List β} {K:List α} {i:Nat} {p:α} (h:K[i]? = some p):(K.flatMap φ).Perm (φ p++(K.eraseIdx i).flatMap φ):=by
 induction K generalizing i with
 | nil=>simp at h
 | cons q K ih =>
   cases i with
   | zero =>
     simp only [List.getElem?_cons_zero,Option.some.injEq] at h
     subst h
     exact .refl _
   | succ i =>
     have:=ih (i:=i) (by simpa using h)
     show (φ q++K.flatMap φ).Perm (φ p++(φ q++(K.eraseIdx i).flatMap φ))
     refine (List.Perm.append_left _ this).trans ?_
     rw [← List.append_assoc,← List.append_assoc]
     exact List.Perm.append_right _ List.perm_append_comm
theorem Wb {α β:Type} {φ:α→List β} {K:List α} {i:Nat} {p g:α} (h:K[i]? = some p):((K.set i g).flatMap φ).Perm (φ g++(K.eraseIdx i).flatMap φ):=by
 have h1:(K.set i g)[i]? = some g:=by
  rw [List.getElem?_set,if_pos rfl,if_pos (List.getElem?_eq_some_iff.1 h).1]
 have:=Yy (φ:=φ) h1
 rwa [List.eraseIdx_set_eq] at this
section
variable {s0 s:St} {n:En} {R:List RA} {B:List (Nat×Box)}
theorem Wc {T:Nat} {r:AV} {xs:List AV} (hx:Cc xs=xs) (hF:Au r=none→r=.ws true 1 []∧xs=[]) (H:Hp s0 s n (⟨1,T,r,xs,true⟩::R) B):∃ a s',Rf true s r=some (a,s')∧Hp s0 s' n R (B++cb T a xs)∧okC a xs:=by
 cases hr:Au r with
 | none =>
   obtain ⟨rfl,rfl⟩:=hF hr
   refine ⟨_,s,rfl,?_,.inr ⟨rfl,rfl⟩⟩
   rw [cB (ys:=[]) .ws,List.append_nil]
   exact H.dropR
 | some k =>
   obtain ⟨s',d,H',_⟩:=H.thaw 0 rfl (by show Au r≠none; rw [hr]; simp) (List.range' 1 R.length) List.nodup_range' (by simp)
   rw [MV,hx] at H'
   rw [Nat.mul_one] at d
   refine ⟨_,s',d,H'.perm (.refl _) ?_,.inl ⟨_,rfl⟩⟩
   exact (List.perm_append_singleton _ _).symm
theorem Yz (H:Hp s0 s n R B) (L:List (List Nat)) (hL:L.length < 2^38) :
    ∃ r s1 a s',(lim Aq).call AN [tx L] s=some (r,s1)∧Rf true s1 r=some (a,s')∧Hp s0 s' n R (B++cb 9 a (L.map .s))∧okC a (L.map .s):=by
 obtain ⟨r,s1,h1,H1,_⟩:=We H L hL
 obtain ⟨a,s',h2,H2,ok⟩:=Wc (VF L) (fun hr=>by
  cases L with
  | nil=>rw [OW] at h1; cases h1; exact ⟨rfl,rfl⟩
  | cons x L=>rw [NI x L hL] at h1; cases h1; cases hr) H1
 exact ⟨r,s1,a,s',h1,h2,H2,ok⟩
theorem Wd (H:Hp s0 s n R B) (L:List Int) (hL:L.length < 2^38) :
    ∃ r s1 a s',(lim Aq).call Ax [zx L] s=some (r,s1)∧Rf true s1 r=some (a,s')∧Hp s0 s' n R (B++cb 3 a (L.map iv))∧okC a (L.map iv):=by
 obtain ⟨r,s1,h1,H1,_⟩:=UP H L hL
 obtain ⟨a,s',h2,H2,ok⟩:=Wc (Rk L) (fun hr=>by
  cases L with
  | nil=>rw [NJ] at h1; cases h1; exact ⟨rfl,rfl⟩
  | cons x L=>rw [Lb x L hL] at h1; cases h1; cases hr) H1
 exact ⟨r,s1,a,s',h1,h2,H2,ok⟩
end
end Go.Proofs.YtgloinighjdhlaaGreat

namespace Go.Proofs.YtgloinighjdhlaaGreat
open Go.Proofs.YtgloinighjdhlaaGreat.Am
attribute [local irreducible] W WO WE WQ WD Tr.get Tr.set
abbrev rowK (id:Nat) (K:List KQ):Nat×Box:=(id,.row 48 (Cc (K.map KQ.av)) false 0)
def RowZ (s0 q:St) (n:En) (v:AV) (l:List FT) (K:List KQ):Prop:=(Hp s0 q n [⟨6,48,v,l.map FT.av,true⟩] []∧Au v≠none∧K=l.map N8)∨(∃ id,v=.bl id 6 0 l.length (l.length*6,false)∧Hp s0 q n [] (rowK id K::bxs K))
theorem RowZ.thaw {s0 q:St} {n:En} {v:AV} {l:List FT} {K:List KQ} (h:RowZ s0 q n v l K) (f:FT) :
    ∃ q1,stA (q.new (.cells 48 [.b false,.i .u8 0,.nsl,.nsl,.i .i64 0,.i .i64 0])) 6 (.p q.nb 0) (.agg f.cells)=some q1∧∃ id q2,G1 q1 v=some (.bl id 6 0 l.length (l.length*6,false),q2)∧Hp s0 q2 n [] (rowK id K::(q.nb,.cells 48 f.cells)::bxs K):=by
 rcases h with ⟨H,hv,rfl⟩ | ⟨id,rfl,H⟩
 · obtain ⟨q1,d1,H1,n1⟩:=H.adp (T:=48) (m:=6) (z:=[.b false,.i .u8 0,.nsl,.nsl,.i .i64 0,.i .i64 0]) (v:=.agg f.cells) rfl ⟨rfl,rfl⟩
   obtain ⟨q2,d2,H2,n2⟩:=H1.thaw 0 rfl hv [] (by simp) (by simp)
   rw [List.length_map] at d2
   unfold rowK
   rw [cR,Yx]
   exact ⟨q1,d1,_,q2,d2,H2⟩
 · obtain ⟨q1,d1,H1,n1⟩:=H.adp (T:=48) (m:=6) (z:=[.b false,.i .u8 0,.nsl,.nsl,.i .i64 0,.i .i64 0]) (v:=.agg f.cells) rfl ⟨rfl,rfl⟩
   refine ⟨q1,d1,id,q1,rfl,H1.perm (.refl _) (.swap _ _ _)⟩
theorem own_bx {s0 s:St} {n:En} (H:Hp s0 s n [] []) (l:List FT) (hne:l≠[]) (ho:FOk l) :
    ∃ r s',(lim Aq).call Fb [fx l] s=some (r,s')∧∃ id K,r=.bl id 6 0 l.length (l.length*6,false)∧Hp s0 s' n [] (rowK id K::bxs K)∧KBk K∧K.map KQ.f=l:=by
 have hpos:=List.length_pos_iff.2 hne
 have hll:=ho.len
 have hz0:wkZ Dg.cin [fx l]=[fx l]:=by simp only [Dg,wkZ,fx,wk]
 refine fn_K (t:=2) (s:=s) (args:=[fx l]) (Post:=fun r s'=>∃ id K,r=.bl id 6 0 l.length (l.length*6,false)∧Hp s0 s' n [] (rowK id K::bxs K)∧KBk K∧K.map KQ.f=l) Q1 rfl rfl rfl (by
     rw [hz0]
     cases l with
     | nil=>exact absurd rfl hne
     | cons f t=>rfl) ?_
 rw [hz0]
 have HE:=H.enter
 obtain ⟨r1,q1,d1,H1,n1,hr1⟩:=UQ HE l hne hll
 unfold fx at d1
 simp only [Dg,go_sem,AD,AA,AC,AB,KB_n,KB_x,Nat.reduceBEq,Nat.reduceAdd,Nat.reduceLT,Nat.reduceLeDiff,Nat.reduceEqDiff,reduceIte,Int.reduceEq,reduceCtorEq,fx,List.length_map,d1]
 refine Br (fun x e q=>∃ (i:Nat) (v:AV) (K:List KQ),i+x=l.length∧RowZ s0 q s.en v l K∧(0 < i→Au v=none)∧(∀ j p,j < i→K[j]? = some p→okC p.nm (p.f.names.map .s)∧okC p.a (p.f.kids.map iv))∧K.map KQ.f=l∧(∀ j f,i≤j→l[j]? = some f→K[j]? = some (N8 f))∧e.get 3=v∧e.get 8=fx l∧e.get 9=.i .i64 (l.length:Nat)∧e.get 10=.i .i64 (i:Nat)) ?_ l.length _ _ ?_
 · rintro x e q ⟨i,v,K,hix,hro,hiv,hK,hKf,hKb,g3,g8,g9,g10⟩
   by_cases h:i < l.length
   · have h1:((i:Int) < (l.length:Int))=True:=eq_true (by omega)
     obtain ⟨f,hf⟩:∃ f,l[i]? = some f:=⟨_,List.getElem?_eq_getElem h⟩
     have hfo:=ho.ok f (List.mem_of_getElem? hf)
     have hg2:=JH hf
     have hw1:=Aj (show i+1 < 2^63 by omega)
     have hlt:(i < l.length)=True:=by simp [h]
     have hKi:=hKb i f (Nat.le_refl _) hf
     have hlK:K.length=l.length:=by rw [← hKf,List.length_map]
     obtain ⟨q2,d2,id,q3,d3,H3⟩:=hro.thaw f
     generalize hb:q.nb=b at d2 H3
     obtain ⟨ra0,s4,ra,q4,d4,d5,H4,ok4⟩:=Yz H3 f.names (by have:=hfo.nlen; omega)
     obtain ⟨rb0,s5,rb,q5,d6,d7,H5,ok5⟩:=Wd H4 f.kids (by have:=hfo.klen; omega)
     have l2:=H3.ld 1 (off:=2) (v:=tx f.names) rfl rfl
     have l3a:=H3.ld 1 (off:=3) (v:=zx f.kids) rfl rfl
     have l3b:=H4.ld 1 (off:=3) (v:=zx f.kids) rfl rfl
     have hfl:=NZ K
     have H5':Hp s0 q5 s.en [] (rowK id K::(b,.cells 48 f.cells)::(bxs K++cb 9 ra (f.names.map .s)++cb 3 rb (f.kids.map iv))):=H5
     obtain ⟨q6,d8,H6⟩:=H5'.stR 0 (off:=i*6+2) (v:=ra) rfl (by rw [hfl,hlK]; omega) (Q4 ok4)
     have e6:(N8 f).cells.set 2 ra=(⟨f,ra,zx f.kids⟩:KQ).cells:=rfl
     rw [Pt hKi (by omega) e6] at H6
     have hK1:(K.set i ⟨f,ra,zx f.kids⟩)[i]? = some ⟨f,ra,zx f.kids⟩:=by rw [List.getElem?_set,if_pos rfl,if_pos (by omega)]
     obtain ⟨q7,d9,H7⟩:=H6.stR 0 (off:=i*6+3) (v:=rb) rfl (by rw [NZ,List.length_set,hlK]; omega) (Q4 ok5)
     have e7:(⟨f,ra,zx f.kids⟩:KQ).cells.set 3 rb=(⟨f,ra,rb⟩:KQ).cells:=rfl
     have hss:(K.set i ⟨f,ra,zx f.kids⟩).set i ⟨f,ra,rb⟩=K.set i ⟨f,ra,rb⟩:=List.set_set ..
     rw [Pt hK1 (by omega) e7,hss] at H7
     have H7':Hp s0 q7 s.en [] (rowK id (K.set i ⟨f,ra,rb⟩)::(b,.cells 48 f.cells)::(bxs K++cb 9 ra (f.names.map .s)++cb 3 rb (f.kids.map iv))):=H7
     have hperm:(bxs K++cb 9 ra (f.names.map .s)++cb 3 rb (f.kids.map iv)).Perm (bxs (K.set i ⟨f,ra,rb⟩)):=by
      refine .trans ?_ (Wb (φ:=bx1) hKi (g:=⟨f,ra,rb⟩)).symm
      have h0:=Yy (φ:=bx1) hKi
      have hb0:bx1 (N8 f)=[]:=rfl
      rw [hb0,List.nil_append] at h0
      rw [List.append_assoc]
      exact (h0.append_right _).trans List.perm_append_comm
     have H8:Hp s0 q7 s.en [] (rowK id (K.set i ⟨f,ra,rb⟩)::bxs (K.set i ⟨f,ra,rb⟩)) :=
      ((H7'.perm (.refl _) ((List.Perm.swap _ _ _).trans ((hperm.cons _).cons _))).dropB)
     have hst:=Yr f.kids
     unfold zx at l3a l3b d6 hst
     unfold tx at l2 d4
     simp only [go_sem,AD,AA,AC,AB,KB_n,KB_x,Nat.reduceBEq,Nat.reduceAdd,Nat.reduceLT,Nat.reduceLeDiff,Nat.reduceEqDiff,reduceIte,Int.reduceEq,reduceCtorEq,g3,g8,g9,g10,fx,h1,AH,hg2,Cd,E9,BH,d2,hb,d3]
     refine WH rfl ?_
     simp only [go_sem,AD,AA,AC,AB,KB_n,KB_x,Nat.reduceBEq,Nat.reduceAdd,Nat.reduceLT,Nat.reduceLeDiff,Nat.reduceEqDiff,reduceIte,Int.reduceEq,reduceCtorEq,l2,d4,d5,l3b,d6,d7,AH,hlt,Nat.zero_add,d8,d9]
     refine bh rfl ?_ hst ⟨⟨_,rfl,l3b⟩,⟨_,rfl,l3a⟩,⟨_,rfl,l3b⟩,⟨_,rfl,l3b⟩,trivial⟩ (WJ ?_)
     · simp only [go_sem,AD,AA,AC,AB,KB_n,KB_x,Nat.reduceBEq,Nat.reduceAdd,Nat.reduceLT,Nat.reduceLeDiff,Nat.reduceEqDiff,reduceIte,Int.reduceEq,reduceCtorEq]
     simp only [go_sem,AD,AA,AC,AB,KB_n,KB_x,Nat.reduceBEq,Nat.reduceAdd,Nat.reduceLT,Nat.reduceLeDiff,Nat.reduceEqDiff,reduceIte,Int.reduceEq,reduceCtorEq,g8,g9,g10,fx,hw1]
     refine ⟨x - 1,by omega,i+1,_,_,by omega,.inr ⟨id,rfl,H8⟩,fun _=>rfl,?_,?_,?_,rfl,rfl⟩
     · intro j p hji hp
       rw [List.getElem?_set] at hp
       by_cases hij:i=j
       · rw [if_pos hij,if_pos (by omega)] at hp
         cases hp; exact ⟨ok4,ok5⟩
       · rw [if_neg hij] at hp
         exact hK j p (by omega) hp
     · rw [List.map_set,hKf]; exact TS hf
     · intro j g hij hg
       rw [List.getElem?_set,if_neg (by omega)]
       exact hKb j g (by omega) hg
   · have h1:((i:Int) < (l.length:Int))=False:=eq_false (by omega)
     simp only [go_sem,AD,AA,AC,AB,KB_n,KB_x,Nat.reduceBEq,Nat.reduceAdd,Nat.reduceLT,Nat.reduceLeDiff,Nat.reduceEqDiff,reduceIte,Int.reduceEq,reduceCtorEq,g3,g8,g9,g10,h1,KK_n,KK_r]
     rcases hro with ⟨_,hv,_⟩ | ⟨id,rfl,H9⟩
     · exact absurd (hiv (by omega)) hv
     · refine ⟨id,K,rfl,H.back H9,fun p hp=>?_,hKf⟩
       obtain ⟨j,hj,rfl⟩:=List.mem_iff_getElem.1 hp
       exact hK j _ (by rw [← hKf,List.length_map] at h; omega) (List.getElem?_eq_getElem hj)
 · simp only [go_sem,AD,AA,AC,AB,KB_n,KB_x,Nat.reduceBEq,Nat.reduceAdd,Nat.reduceLT,Nat.reduceLeDiff,Nat.reduceEqDiff,reduceIte,Int.reduceEq,reduceCtorEq]
   refine ⟨0,r1,l.map N8,by omega,.inl ⟨H1,hr1,rfl⟩,fun h=>absurd h (by omega),fun j p h=>absurd h (by omega),base_f l,?_,rfl,rfl,rfl⟩
   intro j f _ hf
   rw [List.getElem?_map,hf]; rfl
/-! ### What is done to a fact in a row -/
theorem stKB {s0 s:St} {n:En} {id:Nat} {K:List KQ} {R:List RA} {B:List (Nat×Box)} (H:Hp s0 s n R (rowK id K::B)) {i j:Nat} {p:KQ} {g:FT} (hp:K[i]? = some p) (hj:j < 6) {v:AV} (hv:v.cells=[v]∧ones [v]=true) (hc:p.cells.set j v=(⟨g,p.nm,p.a⟩:KQ).cells) :
    ∃ s',stA s 1 (.p id (i*6+j)) v=some s'∧Hp s0 s' n R (rowK id (K.set i ⟨g,p.nm,p.a⟩)::B):=by
 have hil:=(List.getElem?_eq_some_iff.1 hp).1
 obtain ⟨s',d,H'⟩:=H.stR 0 (off:=i*6+j) (v:=v) rfl (by rw [NZ]; omega) hv
 rw [Pt hp hj hc] at H'
 exact ⟨s',d,H'⟩
theorem MF {K:List KQ} {i:Nat} {p:KQ} (h:K[i]? = some p) {g:FT} (hn:g.names=p.f.names) (hk:g.kids=p.f.kids):bxs (K.set i ⟨g,p.nm,p.a⟩)=bxs K:=by
 induction K generalizing i with
 | nil=>simp at h
 | cons q K ih =>
   cases i with
   | zero =>
     simp only [List.getElem?_cons_zero,Option.some.injEq] at h
     subst h
     show bx1 ⟨g,q.nm,q.a⟩++bxs K=bx1 q++bxs K
     unfold bx1
     rw [hn,hk]
   | succ i =>
     show bx1 q++bxs (K.set i ⟨g,p.nm,p.a⟩)=bx1 q++bxs K
     rw [ih (by simpa using h)]
theorem KBk.setF {K:List KQ} (h:KBk K) {i:Nat} {p:KQ} (hp:K[i]? = some p) {g:FT} (hn:g.names=p.f.names) (hk:g.kids=p.f.kids):KBk (K.set i ⟨g,p.nm,p.a⟩):=h.set (by
 have:=h p (List.mem_of_getElem? hp)
 rw [hn,hk]; exact this)
theorem cC {K:List KQ} {l:List FT} (hl:K.map KQ.f=l) {i:Nat} {f:FT} (hf:l[i]? = some f):∃ p,K[i]? = some p∧p.f=f:=by
 subst hl
 rw [List.getElem?_map] at hf
 cases hp:K[i]? with
 | none=>rw [hp] at hf; cases hf
 | some p=>rw [hp] at hf; exact ⟨p,rfl,Option.some.inj hf⟩
theorem KV {α:Type} {K:List α} {i:Nat} {p:α} (h:K[i]? = some p) (g:α):(K.set i g)[i]? = some g:=by
 rw [List.getElem?_set,if_pos rfl,if_pos (List.getElem?_eq_some_iff.1 h).1]
theorem Wg {s0 s s1:St} {n:En} {R:List RA} {B B':List (Nat×Box)} (H:Hp s0 s n R B) (H':Hp s0 s1 s.en R B') (hB:B'.map (·.1)=B.map (·.1)) (v:AV):Hp s0 (Am.leave s s1 v) n R B':=by
 refine H.leave (n1:=s.en) H' v (fun {i p} hp=>?_) (.inr fun {i r k} hr hk=>(H.rows hr).tok_lt hk)
 have h1:(B'.map (·.1))[i]? = some p.1:=by rw [List.getElem?_map,hp]; rfl
 rw [hB,List.getElem?_map] at h1
 cases hq:B[i]? with
 | none=>rw [hq] at h1; cases h1
 | some q =>
   rw [hq] at h1
   simp only [Option.map_some,Option.some.injEq] at h1
   rw [← h1]
   exact (H.box hq).2.2
def RowB (s0 s:St) (n:En) (id:Nat) (l:List FT) (R:List RA) (B:List (Nat×Box)):Prop:=∃ K,Hp s0 s n R (rowK id K::(bxs K++B))∧KBk K∧K.map KQ.f=l
theorem Wh {s0 s:St} {n:En} {id:Nat} {l:List FT} {R:List RA} {B:List (Nat×Box)} (h:RowB s0 s n id l R B) {i:Nat} {f:FT} (hf:l[i]? = some f) :
    ∃ s',DZ (lim Aq) (.fn CW []) [.p id (i*6)] s=some (.tup [],s')∧RowB s0 s' n id (l.set i { f with rest:=1,beside:=0 }) R B:=by
 obtain ⟨r,s',hc,rfl,hP⟩:=fn_G (f:=CW) (args:=[.p id (i*6)]) (s:=s) (Post:=fun r s'=>r=.tup []∧RowB s0 s' n id (l.set i { f with rest:=1,beside:=0 }) R B) Ls rfl rfl (by
  obtain ⟨K,H,hK,hl⟩:=h
  obtain ⟨p,hp,rfl⟩:=cC hl hf
  obtain ⟨q1,d1,H1⟩:=stKB H.enter hp (j:=4) (g:={ p.f with rest:=1 }) (v:=.i .i64 1) (by omega) ⟨rfl,rfl⟩ rfl
  obtain ⟨q2,d2,H2⟩:=stKB H1 (KV hp _) (j:=5) (g:={ p.f with rest:=1,beside:=0 }) (v:=.i .i64 0) (by omega) ⟨rfl,rfl⟩ rfl
  rw [List.set_set] at H2
  simp only [Cx,go_sem,AD,AA,AC,AB,KB_n,KB_x,Nat.reduceBEq,Nat.reduceAdd,Nat.reduceLT,Nat.reduceLeDiff,Nat.reduceEqDiff,reduceIte,Int.reduceEq,reduceCtorEq,d1,d2]
  have hb:=MF hp (g:={ p.f with rest:=1,beside:=0 }) rfl rfl
  refine ⟨_,_,rfl,rfl,K.set i ⟨{ p.f with rest:=1,beside:=0 },p.nm,p.a⟩,?_,hK.setF hp rfl rfl,?_⟩
  · rw [hb]
    exact Wg H H2 rfl _
  · rw [List.map_set,hl])
 exact ⟨s',hc,hP⟩
theorem NK {a:AV} {xs:List AV} (h:okC a xs) (q:St):lenA q 1 a=some (.i .i64 (xs.length:Nat))∧(∀ q:St,ldR q (some a)=some (a,q))∧ldQ (some a)=true:=by
 rcases h with ⟨id,rfl⟩ | ⟨rfl,rfl⟩
 · exact ⟨rfl,fun _=>rfl,rfl⟩
 · exact ⟨rfl,fun _=>rfl,rfl⟩
theorem Y0 {s0 s:St} {n:En} {id:Nat} {l:List FT} {R:List RA} {B:List (Nat×Box)} (h:RowB s0 s n id l R B) {i:Nat} {f:FT} (hf:l[i]? = some f) :
    ∃ s',DZ (lim Aq) (.fn Cr []) [.p id (i*6)] s=some (.tup [],s')∧RowB s0 s' n id (l.set i { f with rest:=2,beside:=(f.names.length:Int) }) R B:=by
 obtain ⟨r,s',hc,rfl,hP⟩:=fn_G (f:=Cr) (args:=[.p id (i*6)]) (s:=s) (Post:=fun r s'=>r=.tup []∧RowB s0 s' n id (l.set i { f with rest:=2,beside:=(f.names.length:Int) }) R B) NG rfl rfl (by
  obtain ⟨K,H,hK,hl⟩:=h
  obtain ⟨p,hp,rfl⟩:=cC hl hf
  obtain ⟨hln,hpu,_⟩:=NK (hK p (List.mem_of_getElem? hp)).1 s.enter
  rw [List.length_map] at hln
  have la:=H.enter.ldR 0 (off:=i*6+2) (v:=p.nm) rfl (NY hp rfl)
  obtain ⟨q1,d1,H1⟩:=stKB H.enter hp (j:=4) (g:={ p.f with rest:=2 }) (v:=.i .i64 2) (by omega) ⟨rfl,rfl⟩ rfl
  obtain ⟨q2,d2,H2⟩:=stKB H1 (KV hp _) (j:=5) (g:={ p.f with rest:=2,beside:=(p.f.names.length:Int) }) (v:=.i .i64 (p.f.names.length:Nat)) (by omega) ⟨rfl,rfl⟩ rfl
  rw [List.set_set] at H2
  simp only [DJ,go_sem,AD,AA,AC,AB,KB_n,KB_x,Nat.reduceBEq,Nat.reduceAdd,Nat.reduceLT,Nat.reduceLeDiff,Nat.reduceEqDiff,reduceIte,Int.reduceEq,reduceCtorEq,la,hpu,hln,d1,d2]
  have hb:=MF hp (g:={ p.f with rest:=2,beside:=(p.f.names.length:Int) }) rfl rfl
  refine ⟨_,_,rfl,rfl,K.set i ⟨{ p.f with rest:=2,beside:=(p.f.names.length:Int) },p.nm,p.a⟩,?_,hK.setF hp rfl rfl,?_⟩
  · rw [hb]
    exact Wg H H2 rfl _
  · rw [List.map_set,hl])
 exact ⟨s',hc,hP⟩
theorem Y1 {s0 s:St} {n:En} {id:Nat} {l:List FT} {R:List RA} {B:List (Nat×Box)} (h:RowB s0 s n id l R B) {i:Nat} {f:FT} (hf:l[i]? = some f) {kb kind:Nat} {j0:Nat} (hk:B[j0]? = some (kb,.cells 5 [.i .u8 (kind:Nat)])) :
    ∃ s',DZ (lim Aq) (.fn Cp [.p kb 0]) [.p id (i*6)] s=some (.tup [],s')∧RowB s0 s' n id (l.set i { f with known:=true,kind:=kind }) R B:=by
 obtain ⟨r,s',hc,rfl,hP⟩:=fn_G (f:=Cp) (args:=[.p id (i*6),.p kb 0]) (s:=s) (Post:=fun r s'=>r=.tup []∧RowB s0 s' n id (l.set i { f with known:=true,kind:=kind }) R B) NE rfl rfl (by
  obtain ⟨K,H,hK,hl⟩:=h
  obtain ⟨p,hp,rfl⟩:=cC hl hf
  have HE:=H.enter
  obtain ⟨q1,d1,H1⟩:=stKB H.enter hp (j:=0) (g:={ p.f with known:=true }) (v:=.b true) (by omega) ⟨rfl,rfl⟩ rfl
  obtain ⟨q2,d2,H2⟩:=stKB H1 (KV hp _) (j:=1) (g:={ p.f with known:=true,kind:=kind }) (v:=.i .u8 (kind:Nat)) (by omega) ⟨rfl,rfl⟩ rfl
  rw [List.set_set] at H2
  have hkB:∀ (X:Nat×Box),(X::(bxs K++B))[1+(bxs K).length+j0]? = some (kb,.cells 5 [.i .u8 (kind:Nat)]):=fun X=>by
   rw [show 1+(bxs K).length+j0=((bxs K).length+j0)+1 by omega,List.getElem?_cons_succ,List.getElem?_append_right (by omega),Nat.add_sub_cancel_left]; exact hk
  have l0:=HE.ld _ (off:=0) (v:=.i .u8 (kind:Nat)) (hkB _) rfl
  have l1:=H1.ld _ (off:=0) (v:=.i .u8 (kind:Nat)) (hkB _) rfl
  simp only [DI,go_sem,AD,AA,AC,AB,KB_n,KB_x,Nat.reduceBEq,Nat.reduceAdd,Nat.reduceLT,Nat.reduceLeDiff,Nat.reduceEqDiff,reduceIte,Int.reduceEq,reduceCtorEq]
  refine WH rfl ?_
  simp only [Nat.add_zero] at d1
  simp only [go_sem,AD,AA,AC,AB,KB_n,KB_x,Nat.reduceBEq,Nat.reduceAdd,Nat.reduceLT,Nat.reduceLeDiff,Nat.reduceEqDiff,reduceIte,Int.reduceEq,reduceCtorEq,l0,d1,d2,Nat.add_zero]
  refine bh rfl ?_ (bj _ _) ⟨⟨_,rfl,l0⟩,⟨_,rfl,l0⟩,⟨_,rfl,l0⟩,⟨_,rfl,l0⟩,⟨_,rfl,l0⟩,⟨_,rfl,l1⟩,trivial⟩ (WJ ?_)
  · simp only [go_sem,AD,AA,AC,AB,KB_n,KB_x,Nat.reduceBEq,Nat.reduceAdd,Nat.reduceLT,Nat.reduceLeDiff,Nat.reduceEqDiff,reduceIte,Int.reduceEq,reduceCtorEq]
  simp only [go_sem,AD,AA,AC,AB,KB_n,KB_x,Nat.reduceBEq,Nat.reduceAdd,Nat.reduceLT,Nat.reduceLeDiff,Nat.reduceEqDiff,reduceIte,Int.reduceEq,reduceCtorEq]
  have hb:=MF hp (g:={ p.f with known:=true,kind:=kind }) rfl rfl
  refine ⟨_,_,rfl,rfl,K.set i ⟨{ p.f with known:=true,kind:=kind },p.nm,p.a⟩,?_,hK.setF hp rfl rfl,?_⟩
  · rw [hb]
    exact Wg H H2 rfl _
  · rw [List.map_set,hl])
 exact ⟨s',hc,hP⟩

def WW (kind:Nat) (f:FT):Int:=if f.known then 6 else if 3 < kind then 1 else 0
def WX (f:FT):Int:=if f.isDir then (if f.rest=1 then 6 else 0) else 1
def Qz (l:List FT) (f:FT):Int:=if f.isDir then (if f.rest=1 then 6 else if f.rest=2∧HL l f=false then 67 else 0) else 1

def FD (l:List FT) (n:Int) (W:FT→Int) (D:FT→FT):List FT×Int :=
 if Cf l n=0 then (match l[n.toNat]? with
  | some f=>if W f=0 then (l.set n.toNat (D f),0) else ([],W f)
  | none=>([],0)) else ([],Cf l n)
theorem NL {f:FT} (h:f.one=true) (hk:f.known=false):f.names=[]∧f.kids=[]∧f.rest=0∧f.beside=0:=by
 have hd:f.isDir=false:=by unfold FT.isDir; rw [hk]; rfl
 unfold FT.one at h
 rw [hd] at h
 simp only [Bool.false_eq_true,if_false,Bool.and_eq_true,Bool.not_eq_true',decide_eq_true_eq] at h
 obtain ⟨h1,h2,h3,h4⟩:=h
 unfold FT.bad at h1
 simp only [Bool.or_eq_false_iff,decide_eq_false_iff_not,Decidable.not_not] at h1
 have h5:=h1.2.2
 exact ⟨List.length_eq_zero_iff.1 h2,List.length_eq_zero_iff.1 (by omega),h3,h4⟩
theorem SF (l:List FT) (n:Int) (kind:Nat):FD l n (WW kind) (fun f=>{ f with known:=true,kind:=kind })=D0 l n kind:=by
 unfold FD D0
 by_cases hz:Cf l n=0
 · obtain ⟨hmay,i,f,rfl,hf⟩:=HJ hz
   rw [if_pos hz,if_pos hz,Int.toNat_natCast,hf]
   simp only
   unfold WW
   cases hk:f.known
   · obtain ⟨h1,h2,h3,h4⟩:=NL (Pd hmay (List.mem_of_getElem? hf)) hk
     have:({ f with known:=true,kind:=kind }:FT)=⟨true,kind,[],[],0,0⟩:=by
      cases f
      simp only at h1 h2 h3 h4
      subst h1; subst h2; subst h3; subst h4
      rfl
     rw [this]
     by_cases k3:3 < kind<;>simp [k3]
   · simp
 · rw [if_neg hz,if_neg hz]
theorem NM {l:List FT} {n:Int} (hz:Cf l n=0) {f:FT} (hf:l[n.toNat]? = some f):dirE l n=if f.isDir then 0 else 1:=by
 unfold dirE
 rw [if_pos hz,hf]
theorem SG (l:List FT) (n:Int):FD l n WX (fun f=>{ f with rest:=2,beside:=(f.names.length:Int) })=FA l n:=by
 unfold FD FA
 by_cases hz:Cf l n=0
 · obtain ⟨hmay,i,f,rfl,hf⟩:=HJ hz
   rw [NM hz (by rw [Int.toNat_natCast]; exact hf),if_pos hz,Int.toNat_natCast,hf]
   simp only
   unfold WX
   cases hi:f.isDir
   · simp
   · by_cases r1:f.rest=1<;>simp [r1]
 · have:dirE l n=Cf l n:=by unfold dirE; rw [if_neg hz]
   rw [this,if_neg hz,if_neg hz]
theorem Q5 (l:List FT) (n:Int):FD l n (Qz l) (fun f=>{ f with rest:=1,beside:=0 })=DV l n:=by
 unfold FD DV
 by_cases hz:Cf l n=0
 · obtain ⟨hmay,i,f,rfl,hf⟩:=HJ hz
   rw [NM hz (by rw [Int.toNat_natCast]; exact hf),if_pos hz,Int.toNat_natCast,hf]
   simp only
   unfold Qz
   cases hi:f.isDir
   · simp
   · by_cases r1:f.rest=1
     · simp [r1]
     · by_cases r2:f.rest=2∧HL l f=false<;>simp [r1,r2]
 · have:dirE l n=Cf l n:=by unfold dirE; rw [if_neg hz]
   rw [this,if_neg hz,if_neg hz]
theorem Wi {kind:Nat} {q:St} (hw:Wf q) {b:Nat} (hb:q.box? b=some (.cells 5 [.i .u8 (kind:Nat)])) (lb:b < q.nb) (f:FT) :
    DZ (lim Aq) (.fn Co [.p b 0]) [.agg f.cells] q=some (.i .i64 (WW kind f),q):=by
 show (lim Aq).call Co [.agg f.cells,.p b 0] q=_
 refine fn_W NC rfl rfl ?_
 have hz0:wkZ Bn.cin [.agg f.cells,.p b 0]=[.agg f.cells,.p b 0]:=by
  have:=SC f
  simp only [Bn,wkZ,wk] at this ⊢
  rw [this]
 rw [hz0]
 have H1:=(Hp.begin hw).new (.cells 48 f.cells)
 generalize hq:q.enter.new (.cells 48 f.cells)=q1 at H1
 generalize hm:q.enter.nb=m at H1
 have l0:=H1.ld 0 (off:=0) (v:=.b f.known) rfl rfl
 have lb0:=Hs H1.over (off:=0) (v:=.i .u8 (kind:Nat)) lb hb rfl
 have hbr:∀ z,KR q [.id] (.i .i64 z) (some ([.i .i64 z],q1)):=fun z=>AP H1.over rfl rfl
 unfold WW
 cases hk:f.known
 · rw [hk] at l0
   rw [if_neg (by simp)]
   by_cases k3:3 < kind
   · have e1:((3:Int) < (kind:Int))=True:=eq_true (by omega)
     rw [if_pos k3]
     simp only [Bn,go_sem,AD,AA,AC,AB,KB_n,KB_x,Nat.reduceBEq,Nat.reduceAdd,Nat.reduceLT,Nat.reduceLeDiff,Nat.reduceEqDiff,reduceIte,Int.reduceEq,reduceCtorEq,Dy,hq,hm,l0,lb0,Nat.zero_add,e1]
     exact hbr _
   · have e1:((3:Int) < (kind:Int))=False:=eq_false (by omega)
     rw [if_neg k3]
     simp only [Bn,go_sem,AD,AA,AC,AB,KB_n,KB_x,Nat.reduceBEq,Nat.reduceAdd,Nat.reduceLT,Nat.reduceLeDiff,Nat.reduceEqDiff,reduceIte,Int.reduceEq,reduceCtorEq,Dy,hq,hm,l0,lb0,Nat.zero_add,e1]
     exact hbr _
 · rw [hk] at l0
   rw [if_pos rfl]
   simp only [Bn,go_sem,AD,AA,AC,AB,KB_n,KB_x,Nat.reduceBEq,Nat.reduceAdd,Nat.reduceLT,Nat.reduceLeDiff,Nat.reduceEqDiff,reduceIte,Int.reduceEq,reduceCtorEq,Dy,hq,hm,l0,Nat.zero_add]
   exact hbr _
theorem Wj {q:St} (hw:Wf q) (f:FT):DZ (lim Aq) (.fn Cq []) [.agg f.cells] q=some (.i .i64 (WX f),q):=by
 show (lim Aq).call Cq [.agg f.cells] q=_
 refine fn_W NF rfl rfl ?_
 have hz0:wkZ Bo.cin [.agg f.cells]=[.agg f.cells]:=by
  have:=SC f
  simp only [Bo,wkZ,wk] at this ⊢
  rw [this]
 rw [hz0]
 have H1:=(Hp.begin hw).new (.cells 48 f.cells)
 generalize hq:q.enter.new (.cells 48 f.cells)=q1 at H1
 generalize hm:q.enter.nb=m at H1
 have l4:=H1.ld 0 (off:=4) (v:=.i .i64 f.rest) rfl rfl
 have lw:=H1.ldw (m:=6) 0 rfl rfl
 have hd:=d_dir (s:=q1) f
 have hbr:∀ z,KR q [.id] (.i .i64 z) (some ([.i .i64 z],q1)):=fun z=>AP H1.over rfl rfl
 unfold WX
 cases hi:f.isDir
 · rw [hi] at hd
   simp only [Bo,go_sem,AD,AA,AC,AB,KB_n,KB_x,Nat.reduceBEq,Nat.reduceAdd,Nat.reduceLT,Nat.reduceLeDiff,Nat.reduceEqDiff,reduceIte,Int.reduceEq,reduceCtorEq,Dy,hq,hm,l4,lw,BH,hd,Nat.zero_add]
   exact hbr _
 · rw [hi] at hd
   rw [if_pos rfl]
   by_cases r1:f.rest=1
   · have e1:(f.rest=1)=True:=by simp [r1]
     rw [if_pos r1]
     simp only [Bo,go_sem,AD,AA,AC,AB,KB_n,KB_x,Nat.reduceBEq,Nat.reduceAdd,Nat.reduceLT,Nat.reduceLeDiff,Nat.reduceEqDiff,reduceIte,Int.reduceEq,reduceCtorEq,Dy,hq,hm,l4,lw,BH,hd,Nat.zero_add,e1]
     exact hbr _
   · have e1:(f.rest=1)=False:=by simp [r1]
     rw [if_neg r1]
     simp only [Bo,go_sem,AD,AA,AC,AB,KB_n,KB_x,Nat.reduceBEq,Nat.reduceAdd,Nat.reduceLT,Nat.reduceLeDiff,Nat.reduceEqDiff,reduceIte,Int.reduceEq,reduceCtorEq,Dy,hq,hm,l4,lw,BH,hd,Nat.zero_add,e1]
     exact hbr _
theorem UR {l:List FT} (hmay:mayP l=true) {i:Nat} {f:FT} (hf:l[i]? = some f) (hfo:f.Ok) {q:St} (hw:Wf q) {b:Nat} (hb:q.box? b=some (.cells 22 [fx l])) (lb:b < q.nb) :
    DZ (lim Aq) (.fn CV [.p b 0]) [.agg f.cells] q=some (.i .i64 (Qz l f),q):=by
 show (lim Aq).call CV [.agg f.cells,.p b 0] q=_
 refine fn_W Lr rfl rfl ?_
 have hz0:wkZ BF.cin [.agg f.cells,.p b 0]=[.agg f.cells,.p b 0]:=by
  have:=SC f
  simp only [BF,wkZ,wk] at this ⊢
  rw [this]
 rw [hz0]
 have H1:=(Hp.begin hw).new (.cells 48 f.cells)
 generalize hq:q.enter.new (.cells 48 f.cells)=q1 at H1
 generalize hm:q.enter.nb=m at H1
 have l4:=H1.ld 0 (off:=4) (v:=.i .i64 f.rest) rfl rfl
 have lw:=H1.ldw (m:=6) 0 rfl rfl
 have lb0:=Hs H1.over (off:=0) (v:=fx l) lb hb rfl
 have hd:=d_dir (s:=q1) f
 have hbr:∀ z,KR q [.id] (.i .i64 z) (some ([.i .i64 z],q1)):=fun z=>AP H1.over rfl rfl
 unfold Qz
 cases hi:f.isDir
 · rw [hi] at hd
   simp only [BF,go_sem,AD,AA,AC,AB,KB_n,KB_x,Nat.reduceBEq,Nat.reduceAdd,Nat.reduceLT,Nat.reduceLeDiff,Nat.reduceEqDiff,reduceIte,Int.reduceEq,reduceCtorEq,Dy,hq,hm,l4,lw,BH,hd,Nat.zero_add]
   exact hbr _
 · rw [hi] at hd
   rw [if_pos rfl]
   by_cases r1:f.rest=1
   · have e1:(f.rest=1)=True:=by simp [r1]
     rw [if_pos r1]
     simp only [BF,go_sem,AD,AA,AC,AB,KB_n,KB_x,Nat.reduceBEq,Nat.reduceAdd,Nat.reduceLT,Nat.reduceLeDiff,Nat.reduceEqDiff,reduceIte,Int.reduceEq,reduceCtorEq,Dy,hq,hm,l4,lw,BH,hd,Nat.zero_add,e1]
     exact hbr _
   · have e1:(f.rest=1)=False:=by simp [r1]
     rw [if_neg r1]
     by_cases r2:f.rest=2
     · have e2:(f.rest=2)=True:=by simp [r2]
       obtain ⟨b0,b1⟩:=Yp (Pd hmay (List.mem_of_getElem? hf)) hi r2
       have ht:=b9 (s:=q1) hmay hf hfo b0 b1
       unfold fx at lb0 ht
       cases htp:HL l f
       · rw [htp] at ht
         rw [if_pos ⟨r2,rfl⟩]
         simp only [BF,go_sem,AD,AA,AC,AB,KB_n,KB_x,Nat.reduceBEq,Nat.reduceAdd,Nat.reduceLT,Nat.reduceLeDiff,Nat.reduceEqDiff,reduceIte,Int.reduceEq,reduceCtorEq,Dy,hq,hm,l4,lw,BH,hd,Nat.zero_add,e1,e2,lb0,ht]
         exact hbr _
       · rw [htp] at ht
         rw [if_neg (by simp)]
         simp only [BF,go_sem,AD,AA,AC,AB,KB_n,KB_x,Nat.reduceBEq,Nat.reduceAdd,Nat.reduceLT,Nat.reduceLeDiff,Nat.reduceEqDiff,reduceIte,Int.reduceEq,reduceCtorEq,Dy,hq,hm,l4,lw,BH,hd,Nat.zero_add,e1,e2,lb0,ht]
         exact hbr _
     · have e2:(f.rest=2)=False:=by simp [r2]
       rw [if_neg (fun h=>r2 h.1)]
       simp only [BF,go_sem,AD,AA,AC,AB,KB_n,KB_x,Nat.reduceBEq,Nat.reduceAdd,Nat.reduceLT,Nat.reduceLeDiff,Nat.reduceEqDiff,reduceIte,Int.reduceEq,reduceCtorEq,Dy,hq,hm,l4,lw,BH,hd,Nat.zero_add,e1,e2]
       exact hbr _
theorem SH {a b c:St} (h:Over a b) (k:Over b c) (hw:Wf c):Over a c where
 nb:=Nat.le_trans h.nb k.nb
 boxes:=by
  have h1:=h.boxes
  rw [← k.boxes,List.drop_drop] at h1
  have:=h.nb; have:=k.nb
  rw [show c.nb - b.nb+(b.nb - a.nb)=c.nb - a.nb by omega] at h1
  exact h1
 nt:=Nat.le_trans h.nt k.nt
 toks:=by
  have h1:=h.toks
  rw [← k.toks,List.drop_drop] at h1
  have:=h.nt; have:=k.nt
  rw [show c.nt - b.nt+(b.nt - a.nt)=c.nt - a.nt by omega] at h1
  exact h1
 lo:=Nat.le_trans h.nb k.lo
theorem Y2 {s q:St} (h:Over s q) {k:Nat} (hk:k < s.nt):q.tok? k=s.tok? k:=by
 have h1:=h.nt
 have e1:Nat.blt k q.nt=true:=by rw [Nat.blt_eq]; omega
 have e2:Nat.blt k s.nt=true:=by rw [Nat.blt_eq]; exact hk
 simp only [St.tok?,e1,e2,cond_true,← h.toks,List.getElem?_drop]
 congr 1
 congr 1
 omega
theorem _root_.Go.Proofs.YtgloinighjdhlaaGreat.Am.Hp.join {s0 s q:St} {n:En} {R R0:List RA} {B B0:List (Nat×Box)} (H0:Hp s0 s n R0 B0) (H1:Hp s q s.en R B):Hp s0 q s.en (R++R0) (B++B0) where
 wf:=H1.wf
 over:=SH H0.over H1.over H1.wf
 lo:=H1.lo
 nb:=H1.nb
 nt:=H1.nt
 rows:=fun {i r} h=>by
  by_cases hi:i < R.length
  · rw [List.getElem?_append_left hi] at h
    rcases H1.rows h with h | ⟨k,v,t,h1,h2,h3⟩
    · exact .inl h
    · exact .inr ⟨k,v,t,h1,Nat.le_trans H0.over.nt h2,h3⟩
  · rw [List.getElem?_append_right (by omega)] at h
    rcases H0.rows h with h | ⟨k,v,t,h1,h2,h3,h4,h5⟩
    · exact .inl h
    · exact .inr ⟨k,v,t,h1,h2,Nat.lt_of_lt_of_le h3 H1.over.nt,by rw [Y2 H1.over h3]; exact h4,h5⟩
 apart:=fun {i j r r' k} hne hi hj hk hk'=>by
  by_cases h1:i < R.length
  · rw [List.getElem?_append_left h1] at hi
    by_cases h2:j < R.length
    · rw [List.getElem?_append_left h2] at hj
      exact H1.apart hne hi hj hk hk'
    · rw [List.getElem?_append_right (by omega)] at hj
      have a1:=(H0.rows hj).tok_lt hk'
      rcases H1.rows hi with h | ⟨k2,v,t,e1,e2,_⟩
      · rw [Ea h] at hk; cases hk
      · rw [e1] at hk
        simp only [Au,Option.some.injEq] at hk
        omega
  · rw [List.getElem?_append_right (by omega)] at hi
    by_cases h2:j < R.length
    · rw [List.getElem?_append_left h2] at hj
      have a1:=(H0.rows hi).tok_lt hk
      rcases H1.rows hj with h | ⟨k2,v,t,e1,e2,_⟩
      · rw [Ea h] at hk'; cases hk'
      · rw [e1] at hk'
        simp only [Au,Option.some.injEq] at hk'
        omega
    · rw [List.getElem?_append_right (by omega)] at hj
      exact H0.apart (by omega) hi hj hk hk'
 box:=fun {i p} h=>by
  by_cases hi:i < B.length
  · rw [List.getElem?_append_left hi] at h
    obtain ⟨h1,h2,h3⟩:=H1.box h
    exact ⟨h1,Nat.le_trans H0.over.nb h2,h3⟩
  · rw [List.getElem?_append_right (by omega)] at h
    obtain ⟨h1,h2,h3⟩:=H0.box h
    exact ⟨by rw [Pb H1.over h3]; exact h1,h2,Nat.lt_of_lt_of_le h3 H1.over.nb⟩
 bapart:=fun {i j p q'} hne hi hj=>by
  by_cases h1:i < B.length
  · rw [List.getElem?_append_left h1] at hi
    by_cases h2:j < B.length
    · rw [List.getElem?_append_left h2] at hj
      exact H1.bapart hne hi hj
    · rw [List.getElem?_append_right (by omega)] at hj
      have:=(H1.box hi).2.1
      have:=(H0.box hj).2.2
      omega
  · rw [List.getElem?_append_right (by omega)] at hi
    by_cases h2:j < B.length
    · rw [List.getElem?_append_left h2] at hj
      have:=(H1.box hj).2.1
      have:=(H0.box hi).2.2
      omega
    · rw [List.getElem?_append_right (by omega)] at hj
      exact H0.bapart (by omega) hi hj
def Kept (s0 s':St) (n:En) (R:List RA) (B:List (Nat×Box)) (r:AV) (P:List FT×Int):Prop :=
 (P.2≠0∧r=.tup [.nsl,.i .i64 P.2]∧Hp s0 s' n R B)∨(P.2=0∧∃ id,r=.tup [.bl id 6 0 P.1.length (P.1.length*6,false),.i .i64 0]∧RowB s0 s' n id P.1 R B)
theorem RowB.back {s0 s q:St} {n:En} {R0 R:List RA} {B0 B:List (Nat×Box)} {id:Nat} {l:List FT} (H0:Hp s0 s n R0 B0) (h:RowB s0 q s.en id l R B):RowB s0 { q with lo:=min s.lo q.lo } n id l R B:=by
 obtain ⟨K,H,hK,hl⟩:=h
 exact ⟨K,H0.back H,hK,hl⟩
theorem RowB.drop {s0 q:St} {n:En} {R:List RA} {B:List (Nat×Box)} {id:Nat} {l:List FT} {x:Nat×Box} (h:RowB s0 q n id l R (x::B)):RowB s0 q n id l R B:=by
 obtain ⟨K,H,hK,hl⟩:=h
 have hp:(rowK id K::(bxs K++x::B)).Perm (x::rowK id K::(bxs K++B)) :=
  ((List.perm_middle).cons _).trans (List.Perm.swap _ _ _)
 exact ⟨K,(H.perm (.refl _) hp).dropB,hK,hl⟩
theorem Pl (l:List FT) (ho:FOk l) (n:Int) {w d:Nat} {wc dc:List AV} (wf:FT→Int) (df:FT→FT) {s0 s:St} {m:En} {R:List RA} {B:List (Nat×Box)} (H:Hp s0 s m R B)
    (hwr:mayP l=true→∀ (i:Nat) (f:FT),l[i]? = some f→DZ (lim Aq) (.fn w wc) [.agg f.cells] s.enter=some (.i .i64 (wf f),s.enter))
    (hdo:∀ (q:St) (id i:Nat) (f:FT),l[i]? = some f→RowB s0 q s.en id l R B→∃ q',DZ (lim Aq) (.fn d dc) [.p id (i*6)] q=some (.tup [],q')∧RowB s0 q' s.en id (l.set i (df f)) R B) :
    ∃ r s',(lim Aq).call Cn [fx l,.i .i64 n,.fn w wc,.fn d dc] s=some (r,s')∧Kept s0 s' m R B r (FD l n wf df):=by
 have hz0:wkZ BR.cin [fx l,.i .i64 n,.fn w wc,.fn d dc]=[fx l,.i .i64 n,.fn w wc,.fn d dc]:=by
  simp only [BR,wkZ,fx,wk]
 have hw:=H.wf
 have HE:=H.enter
 refine QI (t:=8) (u:=9) (s:=s) (args:=[fx l,.i .i64 n,.fn w wc,.fn d dc]) (Post:=fun r s'=>Kept s0 s' m R B r (FD l n wf df)) NH rfl rfl rfl (by rw [hz0]; rfl) ?_
 rw [hz0]
 have hno:∀ z:Int,z≠0→FD l n wf df=([],z)→Kept s0 { s.enter with lo:=min s.lo s.enter.lo } m R B (.tup [.nsl,.i .i64 z]) (FD l n wf df):=fun z hz hc=>by
  rw [hc]
  exact .inl ⟨hz,rfl,H.back HE⟩
 have hm:=b8 (s:=s.enter) (Q3 l _) ho
 unfold fx at hm
 by_cases hz:Cf l n=0
 · obtain ⟨hmay,i,f,rfl,hf⟩:=HJ hz
   have hil:=(List.getElem?_eq_some_iff.1 hf).1
   have hg2:=JH hf
   have hne:l≠[]:=by intro hh; subst hh; simp at hil
   rw [hmay] at hm
   have e1:((i:Int) < 0)=False:=eq_false (by omega)
   have e2:((l.length:Int)≤(i:Int))=False:=eq_false (by omega)
   have hwc:=hwr hmay i f hf
   have hC:FD l (i:Int) wf df=if wf f=0 then (l.set i (df f),0) else ([],wf f):=by
    unfold FD
    rw [if_pos hz,Int.toNat_natCast,hf]
   by_cases hW:wf f=0
   · have e3:((wf f)≠0)=False:=by simp [hW]
     rw [if_pos hW] at hC
     obtain ⟨r,q1,d1,id,K1,rfl,H1,hK1,hl1⟩:=own_bx (Hp.begin hw) l hne ho
     have H1j:=H.join H1
     obtain ⟨q2,d2,hR⟩:=hdo q1 id i f hf ⟨K1,H1j,hK1,hl1⟩
     have hth:G1 q1 (.bl id 6 0 l.length (l.length*6,false))=some (.bl id 6 0 l.length (l.length*6,false),q1):=rfl
     have hlt:(i < l.length)=True:=by simp [hil]
     unfold fx at d1
     simp only [BR,go_sem,AD,AA,AC,AB,KB_n,KB_x,Nat.reduceBEq,Nat.reduceAdd,Nat.reduceLT,Nat.reduceLeDiff,Nat.reduceEqDiff,reduceIte,Int.reduceEq,reduceCtorEq,fx,List.length_map,hm,e1,e2,AH,hg2,Cd,E9,BH,hwc,e3,d1,hth,hlt,Nat.zero_add,d2,Kq,Kr]
     rw [hC]
     refine .inr ⟨rfl,id,?_,hR.back H⟩
     simp only [List.length_set]
   · have e3:((wf f)≠0)=True:=by simp [hW]
     rw [if_neg hW] at hC
     simp only [BR,go_sem,AD,AA,AC,AB,KB_n,KB_x,Nat.reduceBEq,Nat.reduceAdd,Nat.reduceLT,Nat.reduceLeDiff,Nat.reduceEqDiff,reduceIte,Int.reduceEq,reduceCtorEq,fx,List.length_map,hm,e1,e2,AH,hg2,Cd,E9,BH,hwc,e3,Kq,Kr]
     exact hno _ hW hC
 · have hC:FD l n wf df=([],Cf l n):=by unfold FD; rw [if_neg hz]
   unfold Cf at hz hC
   cases hmay:mayP l
   · rw [hmay] at hm hC
     simp only [BR,go_sem,AD,AA,AC,AB,KB_n,KB_x,Nat.reduceBEq,Nat.reduceAdd,Nat.reduceLT,Nat.reduceLeDiff,Nat.reduceEqDiff,reduceIte,Int.reduceEq,reduceCtorEq,fx,List.length_map,hm,Kq,Kr]
     exact hno 4 (by decide) hC
   · rw [hmay] at hm hz hC
     rw [if_pos rfl] at hz hC
     have hout:¬ (0≤n∧n < (l.length:Int)):=fun h=>hz (by rw [if_pos h])
     rw [if_neg hout] at hC
     by_cases n1:n < 0
     · have e1:(n < 0)=True:=by simp [n1]
       simp only [BR,go_sem,AD,AA,AC,AB,KB_n,KB_x,Nat.reduceBEq,Nat.reduceAdd,Nat.reduceLT,Nat.reduceLeDiff,Nat.reduceEqDiff,reduceIte,Int.reduceEq,reduceCtorEq,fx,List.length_map,hm,e1,Kq,Kr]
       exact hno 1 (by decide) hC
     · have e1:(n < 0)=False:=by simp only [eq_iff_iff,iff_false]; exact n1
       have e2:((l.length:Int)≤n)=True:=eq_true (by omega)
       simp only [BR,go_sem,AD,AA,AC,AB,KB_n,KB_x,Nat.reduceBEq,Nat.reduceAdd,Nat.reduceLT,Nat.reduceLeDiff,Nat.reduceEqDiff,reduceIte,Int.reduceEq,reduceCtorEq,fx,List.length_map,hm,e1,e2,Kq,Kr]
       exact hno 1 (by decide) hC

theorem Kept.drop {s0 q:St} {n:En} {R:List RA} {B:List (Nat×Box)} {r:AV} {P:List FT×Int} {x:Nat×Box} (h:Kept s0 q n R (x::B) r P):Kept s0 q n R B r P:=by
 rcases h with ⟨h1,h2,h3⟩ | ⟨h1,id,h2,h3⟩
 · exact .inl ⟨h1,h2,h3.dropB⟩
 · exact .inr ⟨h1,id,h2,h3.drop⟩
theorem Kept.back {s0 s q:St} {n:En} {R0 R:List RA} {B0 B:List (Nat×Box)} {r:AV} {P:List FT×Int} (H0:Hp s0 s n R0 B0) (h:Kept s0 q s.en R B r P):Kept s0 { q with lo:=min s.lo q.lo } n R B r P:=by
 rcases h with ⟨h1,h2,h3⟩ | ⟨h1,id,h2,h3⟩
 · exact .inl ⟨h1,h2,H0.back h3⟩
 · exact .inr ⟨h1,id,h2,h3.back H0⟩
theorem Kept.parts {s0 q:St} {n:En} {R:List RA} {B:List (Nat×Box)} {r:AV} {P:List FT×Int} (h:Kept s0 q n R B r P):∃ a,r=.tup [a,.i .i64 P.2]:=by
 rcases h with ⟨_,rfl,_⟩ | ⟨h1,id,rfl,_⟩
 · exact ⟨_,rfl⟩
 · exact ⟨_,by rw [h1]⟩
theorem know_K (l:List FT) (ho:FOk l) (n:Int) (kind:Nat) {s0 s:St} {m:En} {R:List RA} {B:List (Nat×Box)} (H:Hp s0 s m R B) :
    ∃ r s',(lim Aq).call Eo [fx l,.i .i64 n,.i .u8 (kind:Nat)] s=some (r,s')∧Kept s0 s' m R B r (D0 l n kind):=by
 have hz0:wkZ C9.cin [fx l,.i .i64 n,.i .u8 (kind:Nat)]=[fx l,.i .i64 n,.i .u8 (kind:Nat)]:=by
  simp only [C9,wkZ,SD,wk]
 refine QI (t:=6) (u:=7) (s:=s) (args:=[fx l,.i .i64 n,.i .u8 (kind:Nat)]) (Post:=fun r s'=>Kept s0 s' m R B r (D0 l n kind)) Ph rfl rfl rfl (by rw [hz0]; rfl) ?_
 rw [hz0]
 have H1:=H.enter.new (.cells 5 [.i .u8 (kind:Nat)])
 generalize hq:s.enter.new (.cells 5 [.i .u8 (kind:Nat)])=q at H1
 generalize hm:s.enter.nb=k at H1
 have hb:=H1.box (i:=0) rfl
 simp only at hb
 obtain ⟨r,q',hc,hK⟩:=Pl l ho n (w:=Co) (d:=Cp) (wc:=[.p k 0]) (dc:=[.p k 0]) (WW kind) (fun f=>{ f with known:=true,kind:=kind }) H1 (fun _ i f _=>Wi H1.wf.enter hb.1 hb.2.2 f) (fun q' id i f hf hr=>Y1 hr hf (j0:=0) rfl)
 rw [SF] at hK
 obtain ⟨a,rfl⟩:=hK.parts
 unfold fx at hc
 simp only [C9,go_sem,AD,AA,AC,AB,KB_n,KB_x,Nat.reduceBEq,Nat.reduceAdd,Nat.reduceLT,Nat.reduceLeDiff,Nat.reduceEqDiff,reduceIte,Int.reduceEq,reduceCtorEq,hq,hm,List.length_cons,List.length_nil,Nat.zero_add,fx,hc,Kq,Kr]
 exact hK.drop.back H
theorem more_K (l:List FT) (ho:FOk l) (n:Int) {s0 s:St} {m:En} {R:List RA} {B:List (Nat×Box)} (H:Hp s0 s m R B) :
    ∃ r s',(lim Aq).call Ep [fx l,.i .i64 n] s=some (r,s')∧Kept s0 s' m R B r (FA l n):=by
 have hz0:wkZ DA.cin [fx l,.i .i64 n]=[fx l,.i .i64 n]:=by
  simp only [DA,wkZ,SD,wk]
 refine QI (t:=4) (u:=5) (s:=s) (args:=[fx l,.i .i64 n]) (Post:=fun r s'=>Kept s0 s' m R B r (FA l n)) Pj rfl rfl rfl (by rw [hz0]; rfl) ?_
 rw [hz0]
 have H1:=H.enter
 obtain ⟨r,q',hc,hK⟩:=Pl l ho n (w:=Cq) (d:=Cr) (wc:=[]) (dc:=[]) WX (fun f=>{ f with rest:=2,beside:=(f.names.length:Int) }) H1 (fun _ i f _=>Wj H1.wf.enter f) (fun q' id i f hf hr=>Y0 hr hf)
 rw [SG] at hK
 obtain ⟨a,rfl⟩:=hK.parts
 unfold fx at hc
 simp only [DA,go_sem,AD,AA,AC,AB,KB_n,KB_x,Nat.reduceBEq,Nat.reduceAdd,Nat.reduceLT,Nat.reduceLeDiff,Nat.reduceEqDiff,reduceIte,Int.reduceEq,reduceCtorEq,fx,hc,Kq,Kr]
 exact hK.back H
theorem cD (l:List FT) (ho:FOk l) (n:Int) {s0 s:St} {m:En} {R:List RA} {B:List (Nat×Box)} (H:Hp s0 s m R B) :
    ∃ r s',(lim Aq).call EE [fx l,.i .i64 n] s=some (r,s')∧Kept s0 s' m R B r (DV l n):=by
 have hz0:wkZ Ck.cin [fx l,.i .i64 n]=[fx l,.i .i64 n]:=by
  simp only [Ck,wkZ,SD,wk]
 refine QI (t:=4) (u:=5) (s:=s) (args:=[fx l,.i .i64 n]) (Post:=fun r s'=>Kept s0 s' m R B r (DV l n)) N4 rfl rfl rfl (by rw [hz0]; rfl) ?_
 rw [hz0]
 have H1:=H.enter.new (.cells 22 [fx l])
 generalize hq:s.enter.new (.cells 22 [fx l])=q at H1
 generalize hm:s.enter.nb=k at H1
 have hb:=H1.box (i:=0) rfl
 simp only at hb
 have l0:=H1.ld 0 (off:=0) (v:=fx l) rfl rfl
 obtain ⟨r,q',hc,hK⟩:=Pl l ho n (w:=CV) (d:=CW) (wc:=[.p k 0]) (dc:=[]) (Qz l) (fun f=>{ f with rest:=1,beside:=0 }) H1 (fun hmay i f hf=>UR hmay hf (ho.ok f (List.mem_of_getElem? hf)) H1.wf.enter hb.1 hb.2.2) (fun q' id i f hf hr=>Wh hr hf)
 rw [Q5] at hK
 obtain ⟨a,rfl⟩:=hK.parts
 unfold fx at hc hq l0
 simp only [Ck,go_sem,AD,AA,AC,AB,KB_n,KB_x,Nat.reduceBEq,Nat.reduceAdd,Nat.reduceLT,Nat.reduceLeDiff,Nat.reduceEqDiff,reduceIte,Int.reduceEq,reduceCtorEq,fx,List.length_cons,List.length_nil,Nat.zero_add,hq,hm,l0,hc,Kq,Kr]
 exact hK.drop.back H
theorem TW {s0 s:St} {n:En} {R:List RA} {B:List (Nat×Box)} (H:Hp s0 s n R B) {j:Nat} {id T:Nat} {cs:List AV} (h:B[j]? = some (id,.cells T cs)) {off:Nat} {v:AV} (hv:cs[off]? = some v):ldA s.enter false 1 (.p id off)=some v:=H.enter.ld j h hv
theorem Y3 (l:List FT) (ho:FOk l) {n:Int} {em:Bool} {s0 s:St} {m:En} {R:List RA} {B:List (Nat×Box)} (H:Hp s0 s m R B) {j b:Nat} (hb:B[j]? = some (b,.cells 44 [.i .i64 n,.b em])) :
    ∃ r s',DZ (lim Aq) (.fn Ay [.p b 0]) [fx l] s=some (r,s')∧Kept s0 s' m R B r (DV l n):=by
 show ∃ r s',(lim Aq).call Ay [fx l,.p b 0] s=some (r,s')∧_
 have hz0:wkZ BA.cin [fx l,.p b 0]=[fx l,.p b 0]:=by
  simp only [BA,wkZ,SD,wk]
 refine QI (t:=3) (u:=4) (s:=s) (args:=[fx l,.p b 0]) (Post:=fun r s'=>Kept s0 s' m R B r (DV l n)) Ik rfl rfl rfl (by rw [hz0]; rfl) ?_
 rw [hz0]
 have l0:=TW H hb (off:=0) (v:=.i .i64 n) rfl
 obtain ⟨r,q',hc,hK⟩:=cD l ho n H.enter
 obtain ⟨a,rfl⟩:=hK.parts
 unfold fx at hc
 simp only [BA,go_sem,AD,AA,AC,AB,KB_n,KB_x,Nat.reduceBEq,Nat.reduceAdd,Nat.reduceLT,Nat.reduceLeDiff,Nat.reduceEqDiff,reduceIte,Int.reduceEq,reduceCtorEq,fx,Nat.zero_add,l0,hc,Kq,Kr]
 exact hK.back H
theorem Y4 (l:List FT) (ho:FOk l) {n:Int} {em:Bool} {s0 s:St} {m:En} {R:List RA} {B:List (Nat×Box)} (H:Hp s0 s m R B) {j b:Nat} (hb:B[j]? = some (b,.cells 44 [.i .i64 n,.b em])) :
    ∃ r s',DZ (lim Aq) (.fn Az [.p b 0]) [fx l] s=some (r,s')∧Kept s0 s' m R B r (FA l n):=by
 show ∃ r s',(lim Aq).call Az [fx l,.p b 0] s=some (r,s')∧_
 have hz0:wkZ BB.cin [fx l,.p b 0]=[fx l,.p b 0]:=by
  simp only [BB,wkZ,SD,wk]
 refine QI (t:=3) (u:=4) (s:=s) (args:=[fx l,.p b 0]) (Post:=fun r s'=>Kept s0 s' m R B r (FA l n)) Il rfl rfl rfl (by rw [hz0]; rfl) ?_
 rw [hz0]
 have l0:=TW H hb (off:=0) (v:=.i .i64 n) rfl
 obtain ⟨r,q',hc,hK⟩:=more_K l ho n H.enter
 obtain ⟨a,rfl⟩:=hK.parts
 unfold fx at hc
 simp only [BB,go_sem,AD,AA,AC,AB,KB_n,KB_x,Nat.reduceBEq,Nat.reduceAdd,Nat.reduceLT,Nat.reduceLeDiff,Nat.reduceEqDiff,reduceIte,Int.reduceEq,reduceCtorEq,fx,Nat.zero_add,l0,hc,Kq,Kr]
 exact hK.back H
theorem Y5 (l:List FT) (ho:FOk l) {n:Int} {em:Bool} {k:Nat} {s0 s:St} {m:En} {R:List RA} {B:List (Nat×Box)} (H:Hp s0 s m R B) {j b:Nat} (hb:B[j]? = some (b,.cells 44 [.i .i64 n,.b em])) {j2 kb:Nat} (hk:B[j2]? = some (kb,.cells 5 [.i .u8 (k:Nat)])) :
    ∃ r s',DZ (lim Aq) (.fn AZ [.p b 0,.p kb 0]) [fx l] s=some (r,s')∧Kept s0 s' m R B r (D0 l n k):=by
 show ∃ r s',(lim Aq).call AZ [fx l,.p b 0,.p kb 0] s=some (r,s')∧_
 have hz0:wkZ BC.cin [fx l,.p b 0,.p kb 0]=[fx l,.p b 0,.p kb 0]:=by
  simp only [BC,wkZ,SD,wk]
 refine QI (t:=4) (u:=5) (s:=s) (args:=[fx l,.p b 0,.p kb 0]) (Post:=fun r s'=>Kept s0 s' m R B r (D0 l n k)) Im rfl rfl rfl (by rw [hz0]; rfl) ?_
 rw [hz0]
 have l0:=TW H hb (off:=0) (v:=.i .i64 n) rfl
 have l1:=TW H hk (off:=0) (v:=.i .u8 (k:Nat)) rfl
 obtain ⟨r,q',hc,hK⟩:=know_K l ho n k H.enter
 obtain ⟨a,rfl⟩:=hK.parts
 unfold fx at hc
 simp only [BC,go_sem,AD,AA,AC,AB,KB_n,KB_x,Nat.reduceBEq,Nat.reduceAdd,Nat.reduceLT,Nat.reduceLeDiff,Nat.reduceEqDiff,reduceIte,Int.reduceEq,reduceCtorEq,fx,Nat.zero_add,l0,l1,hc,Kq,Kr]
 exact hK.back H
end Go.Proofs.YtgloinighjdhlaaGreat

namespace Go.Proofs.YtgloinighjdhlaaGreat
open Go.Proofs.YtgloinighjdhlaaGreat.Am
theorem Wp {s s1:St} {v:AV} (h:s1.lo < s.nb):Am.leave s s1 v={ s1 with lo:=min s.lo s1.lo }:=by
 unfold Am.leave
 have:Nat.ble s.nb s1.lo=false:=by
  rw [Bool.eq_false_iff]
  intro hh
  rw [Nat.ble_eq] at hh
  omega
 rw [this,Bool.false_and,if_neg (by simp)]

attribute [local irreducible] W WO WE WQ WD Tr.get Tr.set
def goW:List (List FT×Int)→List (List FT)→List (List FT)×Int
 | [],acc=>(acc,0)
 | r::rs,acc=>if r.2=0 then goW rs (acc++[r.1]) else if r.2=67 then goW rs acc else ([],r.2)
def C1 (l:List FT) (n:Int) (empty links:Bool):List (List FT×Int) :=
 if empty then [DV l n,FA l n] else (List.range (Ez links+1)).map fun k=>D0 l n k
theorem Zl:∀ (rs:List (List FT×Int)) (acc:List (List FT)),(∀ r∈rs,r.2=0)→goW rs acc=(acc++rs.map (·.1),0)
 | [],acc,_=>by simp [goW]
 | r::rs,acc,h=>by
   rw [goW,if_pos (h r List.mem_cons_self),Zl rs _ fun x hx=>h x (List.mem_cons_of_mem _ hx)]
   simp
theorem NN (l:List FT) (n:Int):Cf l n=0∨Cf l n=1∨Cf l n=4:=by
 unfold Cf
 split
 · split
   · exact .inl rfl
   · exact .inr (.inl rfl)
 · exact .inr (.inr rfl)
theorem Wk (l:List FT) (n:Int):dirE l n=0∨dirE l n=1∨dirE l n=4:=by
 unfold dirE
 split
 · split
   · split
     · exact .inl rfl
     · exact .inr (.inl rfl)
   · exact .inl rfl
 · exact NN l n
theorem Wl (l:List FT) (n:Int):(D0 l n 0).2≠67:=by
 unfold D0
 split
 · split
   · simp
   · split
     · simp
     · split<;>simp
 · rcases NN l n with h | h | h<;>rw [h]<;>simp
theorem Y6 (l:List FT) (n:Int) (empty links:Bool):goW (C1 l n empty links) []=waysP l n empty links:=by
 unfold C1 waysP
 have hmk:Ez links≤3:=by unfold Ez; split<;>omega
 cases empty
 · rw [if_neg (by simp),if_neg (by simp)]
   by_cases hz:(D0 l n 0).2=0
   · rw [if_pos hz,Zl _ _ fun r hr=>by
      obtain ⟨k,hk,rfl⟩:=List.mem_map.1 hr
      rw [List.mem_range] at hk
      rw [Zk l n k (by omega),hz]]
     simp
   · rw [if_neg hz]
     have:(List.range (Ez links+1)).map (fun k=>D0 l n k)=D0 l n 0::((List.range (Ez links)).map fun k=>D0 l n (k+1)):=by
      rw [List.range_succ_eq_map,List.map_cons,List.map_map]; rfl
     rw [this,goW,if_neg hz,if_neg (Wl l n)]
 · rw [if_pos rfl,if_pos rfl]
   simp only [goW]
   have key:((DV l n).2=0∨(DV l n).2=67)∧(FA l n).2=0∨((DV l n).2≠0∧(DV l n).2≠67∧(DV l n).2=(FA l n).2):=by
    unfold DV FA
    by_cases hd:dirE l n=0
    · rw [if_pos hd,if_pos hd]
      cases hf:l[n.toNat]? with
      | none=>left; simp
      | some f =>
        simp only
        by_cases r1:f.rest=1
        · right; simp [r1]
        · left
          by_cases r2:f.rest=2∧HL l f=false<;>simp [r1,r2]
    · right
      rw [if_neg hd,if_neg hd]
      refine ⟨hd,?_,rfl⟩
      rcases Wk l n with h | h | h<;>rw [h]<;>simp
   rcases key with ⟨h1 | h1,h2⟩ | ⟨h1,h2,h3⟩
   · simp [h1,h2]
   · simp [h1,h2]
   · rw [if_neg h1,if_neg h2,if_neg (by rw [← h3]; exact h1),h3]
theorem Y7 (links:Bool) (s:St):(lim Aq).call D6 [.b links] s=some (.fn Bu [.p s.nb 0],{ s.new (.cells 4 [.b links]) with lo:=min s.lo s.nb }):=by
 obtain ⟨r,s',h,rfl,rfl⟩:=fn_G (f:=D6) (args:=[.b links]) (s:=s) (Post:=fun r s'=>r=.fn Bu [.p s.nb 0]∧s'={ s.new (.cells 4 [.b links]) with lo:=min s.lo s.nb }) Pg rfl rfl (by
  have hz0:wkZ DE.cin [.b links]=[.b links]:=by simp [DE,wkZ,wk]
  have hl1:∀ a:AV,[a].length=1:=fun _=>rfl
  rw [hz0]
  simp only [DE,go_sem,AD,AA,AC,AB,KB_n,KB_x,Nat.reduceBEq,Nat.reduceAdd,Nat.reduceLT,Nat.reduceLeDiff,Nat.reduceEqDiff,reduceIte,Int.reduceEq,reduceCtorEq,hl1]
  exact ⟨_,_,rfl,rfl,I8 rfl⟩)
 exact h
theorem Wm (n:Int) (links:Bool) (s:St):(lim Aq).call BX [.agg [.i .i64 n,.b true],.b links] s=some (.ws false 1 [.fn Ay [.p s.nb 0],.fn Az [.p s.nb 0]],{ s.new (.cells 44 [.i .i64 n,.b true]) with lo:=min s.lo s.nb }):=by
 obtain ⟨r,s',h,rfl,rfl⟩:=fn_G (f:=BX) (args:=[.agg [.i .i64 n,.b true],.b links]) (s:=s) (Post:=fun r s'=>r=.ws false 1 [.fn Ay [.p s.nb 0],.fn Az [.p s.nb 0]]∧s'={ s.new (.cells 44 [.i .i64 n,.b true]) with lo:=min s.lo s.nb }) GX rfl rfl (by
  have hz0:wkZ Aa.cin [.agg [.i .i64 n,.b true],.b links]=[.agg [.i .i64 n,.b true],.b links]:=by simp [Aa,wkZ,wk]
  have l1:ldA (s.enter.new (.cells 44 [.i .i64 n,.b true])) false 1 (.p s.enter.nb 1)=some (.b true):=D3 (BG s.enter _) rfl
  have hal:Ah 1 [AV.fn Ay [.p s.enter.nb 0],.fn Az [.p s.enter.nb 0]]=true:=rfl
  rw [hz0]
  simp only [Aa,go_sem,AD,AA,AC,AB,KB_n,KB_x,Nat.reduceBEq,Nat.reduceAdd,Nat.reduceLT,Nat.reduceLeDiff,Nat.reduceEqDiff,reduceIte,Int.reduceEq,reduceCtorEq,l1,Nat.zero_add,List.length_cons,List.length_nil,hal]
  exact ⟨_,_,rfl,rfl,I8 rfl⟩)
 exact h
abbrev kA:C:=subC Aa.body [1,1,1,0,1,0,0]
abbrev kC:C:=subC Aa.body [1,1,1,0,1,0,1]
theorem set3 {α:Type} {B:List α} {i1 i2:Nat} {y l0 l1:α} (h:i1≠i2) (h2:B[i2]? = some l0):((B.set i2 l1).set i1 y).set i2 l0=B.set i1 y:=by
 rw [List.set_comm _ _ h.symm,List.set_set,List.set_comm _ _ h,O5 h2]
theorem kround {s q:St} {n:En} {B:List (Nat×Box)} {i1 i2 k ido b j:Nat} {e:Tr} {a:AV} {xs:List AV}
    (H:Hp s q n [⟨1,72,a,xs,true⟩] B) (hi1:B[i1]? = some (ido,.cells 70 [a])) (hi2:B[i2]? = some (k,.loop 0 none e [14] kA kC)) (hx:xs.length < 8) (g2:e.get 2=.p b 0) (g5:e.get 5=.p ido 0) :
    ∃ q' a' kb,DZ (lim Aq) (.yld k) [.i .u8 (j:Nat)] q=some (.b true,q')∧Hp s q' n [⟨1,72,a',xs++[.fn AZ [.p b 0,.p kb 0]],true⟩] ((kb,.cells 5 [.i .u8 (j:Nat)])::B.set i1 (ido,.cells 70 [a']))∧q'.lo≤ido:=by
 have hne:i1≠i2:=by
  rintro rfl
  rw [hi1] at hi2
  simp at hi2
 have hk:=(H.box hi2).1
 simp only at hk
 obtain ⟨o,q',hc,hK⟩:=PL (K:=fun o q'=>o=none∧∃ a' kb,Hp s q' n [⟨1,72,a',xs++[.fn AZ [.p b 0,.p kb 0]],true⟩] ((kb,.cells 5 [.i .u8 (j:Nat)])::B.set i1 (ido,.cells 70 [a']))∧q'.lo≤ido) (t:=e.set 10 14 (.i .u8 (j:Nat))) (args:=[.i .u8 (j:Nat)]) hk rfl (by
  simp only [kA,Aa,subC,go_sem,AD,AA,AC,AB,KB_n,KB_x,Nat.reduceBEq,Nat.reduceAdd,Nat.reduceLT,Nat.reduceLeDiff,Nat.reduceEqDiff,reduceIte,Int.reduceEq,reduceCtorEq]
  have H1:=H.new (.cells 5 [.i .u8 0])
  obtain ⟨q1,d1,H2,n1,_⟩:=H1.st 0 (off:=0) (v:=.i .u8 (j:Nat)) rfl (by simp) ⟨rfl,rfl⟩
  simp only [List.set_cons_zero] at H2
  have hk1:=(H2.box (i:=i2+1) (by simpa using hi2)).1
  have H3:=H2.setBox (i:=i2+1) (id:=k) (by simpa using hi2) (.loop 1 none e [14] kA kC)
  obtain ⟨q2,hq2⟩:∃ q2,q1.setBox k (.loop 1 none e [14] kA kC)=q2:=⟨_,rfl⟩
  rw [hq2] at H3
  simp only [List.set_cons_succ] at H3
  have hb1:(B.set i2 (k,Box.loop 1 none e [14] kA kC))[i1]? = some (ido,.cells 70 [a]):=by rw [List.getElem?_set_ne hne.symm]; exact hi1
  have la:=H3.ld (i1+1) (off:=0) (v:=a) (by simpa using hb1) rfl
  obtain ⟨a2,q4,d4,H4,n4,p4⟩:=H3.app 0 (y:=.sl 1 [.fn AZ [.p b 0,.p q.nb 0]] .full) (ys:=[.fn AZ [.p b 0,.p q.nb 0]]) rfl (by simp [elems,St.ok]) (by simp; omega)
  have lr:=(H3.rld 0 rfl).1
  have p4:=p4 (by simp)
  have rc:=H4.rcells 0 rfl
  obtain ⟨q5,d5,H5,n5,lo5⟩:=H4.st (i1+1) (id:=ido) (T:=70) (cs:=[a]) (off:=0) (v:=a2) (by simpa using hb1) (by simp) ⟨rc.1,rc.2.1⟩
  simp only [List.set_cons_succ,List.set_cons_zero] at H5
  have hb2:((B.set i2 (k,Box.loop 1 none e [14] kA kC)).set i1 (ido,.cells 70 [a2]))[i2]? = some (k,Box.loop 1 none e [14] kA kC):=by
   rw [List.getElem?_set_ne hne,List.getElem?_set,if_pos rfl,if_pos (by rw [List.getElem?_eq_some_iff] at hi2; exact hi2.1)]
  have hk5:=(H5.box (i:=i2+1) (p:=(k,Box.loop 1 none e [14] kA kC)) (by simpa using hb2)).1
  have H6:=H5.setBox (i:=i2+1) (id:=k) (X:=Box.loop 1 none e [14] kA kC) (by simpa using hb2) (.loop 0 none e [14] kA kC)
  rw [List.set_cons_succ,set3 hne hi2] at H6
  have hal:Ah 1 [AV.fn AZ [.p b 0,.p q.nb 0]]=true:=rfl
  simp only [go_sem,AD,AA,AC,AB,KB_n,KB_x,Nat.reduceBEq,Nat.reduceAdd,Nat.reduceLT,Nat.reduceLeDiff,Nat.reduceEqDiff,reduceIte,Int.reduceEq,reduceCtorEq,d1]
  refine ⟨_,_,_,_,hk1,?_⟩
  rw [hq2]
  simp only [kC,Aa,subC,go_sem,AD,AA,AC,AB,KB_n,KB_x,Nat.reduceBEq,Nat.reduceAdd,Nat.reduceLT,Nat.reduceLeDiff,Nat.reduceEqDiff,reduceIte,Int.reduceEq,reduceCtorEq,g2,g5,la,lr,hal,d4,d5]
  exact ⟨_,_,_,_,hk5,rfl,a2,q.nb,H6,lo5 p4.2⟩)
 obtain ⟨rfl,a',kb,H',hlo⟩:=hK
 exact ⟨q',a',kb,hc,H',hlo⟩
def KI (s q:St) (n:En) (e:Tr) (ido k b:Nat) (Bf:List (Nat×Box)) (J:Nat):Prop :=
 ∃ a xs B,Hp s q n [⟨1,72,a,xs,true⟩] B∧(ido,Box.cells 70 [a])∈B∧(k,Box.loop 0 none e [14] kA kC)∈B∧(∀ p∈Bf,p∈B)∧(J≠0→q.lo≤ido)∧xs.length=J ∧
  ∀ j,j < J→∃ kb,xs[j]? = some (.fn AZ [.p b 0,.p kb 0])∧(kb,Box.cells 5 [.i .u8 (j:Nat)])∈B
theorem LG {α:Type} {l:List α} {i:Nat} {a b x:α} (hi:l[i]? = some b) (hx:x∈l) (hne:x≠b):x∈l.set i a:=by
 obtain ⟨j,hj⟩:=List.mem_iff_getElem?.1 hx
 refine List.mem_iff_getElem?.2 ⟨j,?_⟩
 rw [List.getElem?_set_ne,hj]
 rintro rfl
 rw [hi] at hj
 exact hne (Option.some.inj hj).symm
theorem cE {s q:St} {n:En} {e:Tr} {ido k b J:Nat} {Bf:List (Nat×Box)} (hbf:∀ p∈Bf,∀ c,p.2≠Box.cells 70 c) (h:KI s q n e ido k b Bf J) (hJ:J < 8) (g2:e.get 2=.p b 0) (g5:e.get 5=.p ido 0) :
    ∃ q',DZ (lim Aq) (.yld k) [.i .u8 (J:Nat)] q=some (.b true,q')∧KI s q' n e ido k b Bf (J+1):=by
 obtain ⟨a,xs,B,H,h1,h2,h3,h4,h5,h6⟩:=h
 obtain ⟨i1,hi1⟩:=List.mem_iff_getElem?.1 h1
 obtain ⟨i2,hi2⟩:=List.mem_iff_getElem?.1 h2
 obtain ⟨q',a',kb,hc,H',hlo⟩:=kround (j:=J) H hi1 hi2 (by omega) g2 g5
 refine ⟨q',hc,a',_,_,H',?_,?_,?_,fun _=>hlo,by simp [h5],fun j hj=>?_⟩
 · exact List.mem_cons_of_mem _ (List.mem_iff_getElem?.2 ⟨i1,by rw [List.getElem?_set,if_pos rfl,if_pos (by rw [List.getElem?_eq_some_iff] at hi1; exact hi1.1)]⟩)
 · exact List.mem_cons_of_mem _ (LG hi1 h2 (by simp))
 · exact fun p hp=>List.mem_cons_of_mem _ (LG hi1 (h3 p hp) fun he=>hbf p hp [a] (by rw [he]))
 · by_cases hjj:j < J
   · obtain ⟨kb',k1,k2⟩:=h6 j hjj
     refine ⟨kb',?_,List.mem_cons_of_mem _ (LG hi1 k2 (by simp))⟩
     rw [List.getElem?_append_left (by omega),k1]
   · obtain rfl:j=J:=by omega
     refine ⟨kb,?_,List.mem_cons_self⟩
     rw [List.getElem?_append_right (by omega),h5]
     simp
theorem KI.box {s q:St} {n:En} {e:Tr} {ido k b J:Nat} {Bf:List (Nat×Box)} (h:KI s q n e ido k b Bf J) {p:Nat×Box} (hp:p∈Bf):q.box? p.1=some p.2∧p.1 < q.nb:=by
 obtain ⟨a,xs,B,H,h1,h2,h3,_⟩:=h
 obtain ⟨i,hi⟩:=List.mem_iff_getElem?.1 (h3 p hp)
 exact ⟨(H.box hi).1,(H.box hi).2.2⟩
theorem _root_.Go.Proofs.YtgloinighjdhlaaGreat.Am.Hp.leaveL {s0 s s1:St} {n:En} {lo1:Nat} {R R1:List RA} {B B1:List (Nat×Box)} (H:Hp s0 s n R B) (K:Hp s0 s1 ⟨lo1,s.nb,s.nt⟩ R1 B1):Hp s0 { s1 with lo:=min s.lo s1.lo } n R1 B1:=by
 have hnb:s.nb≤s1.nb:=K.nb
 have hnt:s.nt≤s1.nt:=K.nt
 refine { wf:=K.wf.lo _,over:=K.over.setLo ?_,lo:=by have:=H.lo; simp only; omega,nb:=by have:=H.nb; simp only; omega,nt:=by have:=H.nt; simp only; omega,rows:=fun hr=>(K.rows hr).mono (Nat.le_refl _) fun _ _=>rfl,apart:=K.apart,box:=K.box,bapart:=K.bapart }
 have:=H.over.lo
 have:=K.over.lo
 omega
theorem Wn {s q:St} {n:En} {e0:Tr} {ido k b kb:Nat} {links:Bool} {Bf:List (Nat×Box)} (hbf:∀ p∈Bf,∀ c,p.2≠Box.cells 70 c) (h:KI s q n e0 ido k b Bf 0) (hkb:(kb,Box.cells 4 [.b links])∈Bf) (g2:e0.get 2=.p b 0) (g5:e0.get 5=.p ido 0) :
    ∃ q',(lim Aq).call Bu [.yld k,.p kb 0] q=some (.tup [],q')∧KI s q' n e0 ido k b Bf (Ez links+1):=by
 have hmk:Ez links=2∧links=false∨Ez links=3∧links=true:=by cases links<;>simp [Ez]
 have hido:ido < q.nb:=by
  obtain ⟨a,xs,B,H,h1,_⟩:=h
  obtain ⟨i,hi⟩:=List.mem_iff_getElem?.1 h1
  exact (H.box hi).2.2
 obtain ⟨r,q',hcall,rfl,hres⟩:=fn_G (f:=Bu) (args:=[.yld k,.p kb 0]) (s:=q) (Post:=fun r q'=>r=.tup []∧KI s q' n e0 ido k b Bf (Ez links+1)) NB rfl rfl (by
  have hend:∀ q1,KI s q1 q.en e0 ido k b Bf (Ez links+1)→KH q [] (fun r q'=>r=.tup []∧KI s q' n e0 ido k b Bf (Ez links+1)) (some ([],q1)):=fun q1 hq1=>by
   obtain ⟨a,xs,B,H,h1,h2,h3,h4,h5,h6⟩:=hq1
   have hlo:=h4 (by omega)
   refine ⟨_,_,rfl,rfl,?_⟩
   rw [Wp (by omega)]
   obtain ⟨_,_,_,H0,_⟩:=h
   exact ⟨a,xs,B,H0.leaveL H,h1,h2,h3,fun _=>by simp only; omega,h5,h6⟩
  have hz0:wkZ CS.cin [.yld k,.p kb 0]=[.yld k,.p kb 0]:=by simp [CS,wkZ,wk]
  rw [hz0]
  simp only [CS,go_sem,AD,AA,AC,AB,KB_n,KB_x,Nat.reduceBEq,Nat.reduceAdd,Nat.reduceLT,Nat.reduceLeDiff,Nat.reduceEqDiff,reduceIte,Int.reduceEq,reduceCtorEq]
  refine Br (fun x e q1=>∃ j:Nat,j+x=4∧KI s q1 q.en e0 ido k b Bf (min j (Ez links+1))∧e.get 0=.yld k∧e.get 1=.p kb 0∧e.get 4=.i .u8 (j:Nat)) ?_ 4 _ _ ?_
  · rintro x e q1 ⟨j,hn,hK,g0,g1,g4⟩
    have lda:=D3 (s:=q1) (v:=.b links) (off:=0) (hK.box hkb).1 rfl
    by_cases hj:j < 4
    · have h1:((j:Int) < 4)=True:=eq_true (by omega)
      have hw1:=bu (show j≤3 by omega)
      by_cases hjk:j < Ez links+1
      · rw [Nat.min_eq_left (by omega)] at hK
        obtain ⟨q2,hstep,hK2⟩:=cE hbf hK (by omega) g2 g5
        by_cases j3:j=3
        · have e1:((j:Int)≠3)=False:=by simp [j3]
          have hlt:links=true:=by
           rcases hmk with ⟨h2,_⟩ | ⟨_,h3⟩
           · omega
           · exact h3
          rw [hlt] at lda
          simp only [go_sem,AD,AA,AC,AB,KB_n,KB_x,Nat.reduceBEq,Nat.reduceAdd,Nat.reduceLT,Nat.reduceLeDiff,Nat.reduceEqDiff,reduceIte,Int.reduceEq,reduceCtorEq,g0,g1,g4,h1,e1,lda,hstep,hw1]
          exact ⟨x - 1,by omega,j+1,by omega,by rw [Nat.min_eq_left (by omega)]; exact hK2,rfl⟩
        · have e1:((j:Int)≠3)=True:=by simp only [ne_eq,eq_iff_iff,iff_true]; omega
          simp only [go_sem,AD,AA,AC,AB,KB_n,KB_x,Nat.reduceBEq,Nat.reduceAdd,Nat.reduceLT,Nat.reduceLeDiff,Nat.reduceEqDiff,reduceIte,Int.reduceEq,reduceCtorEq,g0,g1,g4,h1,e1,hstep,hw1]
          exact ⟨x - 1,by omega,j+1,by omega,by rw [Nat.min_eq_left (by omega)]; exact hK2,rfl⟩
      · rw [Nat.min_eq_right (by omega)] at hK
        have j3:j=3:=by omega
        have e1:((j:Int)≠3)=False:=by simp [j3]
        have hlf:links=false:=by
         rcases hmk with ⟨_,h3⟩ | ⟨h2,_⟩
         · exact h3
         · omega
        rw [hlf] at lda
        simp only [go_sem,AD,AA,AC,AB,KB_n,KB_x,Nat.reduceBEq,Nat.reduceAdd,Nat.reduceLT,Nat.reduceLeDiff,Nat.reduceEqDiff,reduceIte,Int.reduceEq,reduceCtorEq,g0,g1,g4,h1,e1,lda,hw1]
        exact ⟨x - 1,by omega,j+1,by omega,by rw [Nat.min_eq_right (by omega)]; exact hK,rfl⟩
    · have h1:((j:Int) < 4)=False:=eq_false (by omega)
      rw [Nat.min_eq_right (by rcases hmk with ⟨h2,_⟩ | ⟨h2,_⟩<;>omega)] at hK
      simp only [go_sem,AD,AA,AC,AB,KB_n,KB_x,Nat.reduceBEq,Nat.reduceAdd,Nat.reduceLT,Nat.reduceLeDiff,Nat.reduceEqDiff,reduceIte,Int.reduceEq,reduceCtorEq,g0,g1,g4,h1]
      exact hend q1 hK
  · simp only [go_sem,AD,AA,AC,AB,KB_n,KB_x,Nat.reduceBEq,Nat.reduceAdd,Nat.reduceLT,Nat.reduceLeDiff,Nat.reduceEqDiff,reduceIte,Int.reduceEq,reduceCtorEq]
    obtain ⟨a,xs,B,H,h1,h2,h3,h4,h5,h6⟩:=h
    refine ⟨0,by omega,⟨a,xs,B,H.enter,h1,h2,h3,fun h=>absurd (Nat.zero_min _) h,by simpa using h5,fun j hj=>absurd hj (by simp)⟩,rfl⟩)
 exact ⟨q',hcall,hres⟩
theorem Wo:∀ xs:List AV,wkM .id xs=xs
 | []=>by simp only [wkM]
 | x::xs=>by
   simp only [wkM,Wo xs,List.cons.injEq,and_true]
   rw [wk]

def Wq (l:List FT) (n:Int) (em links:Bool):Prop:=∀ {s q:St} {B0:List (Nat×Box)},Hp s q s.en [] B0 →
 ∃ vs q1 B1,(lim Aq).call BX [.agg [.i .i64 n,.b em],.b links] q=some (.ws false 1 vs,q1)∧Hp s q1 s.en [] B1∧vs.length=(C1 l n em links).length ∧
  ∀ (j:Nat) (r:List FT×Int),(C1 l n em links)[j]? = some r→∃ g caps,vs[j]? = some (.fn g caps) ∧
   ∀ {u:St} {m:En} {R:List RA} {B:List (Nat×Box)},Hp s u m R B→(∀ p∈B1,p∈B)→∃ v u',DZ (lim Aq) (.fn g caps) [fx l] u=some (v,u')∧Kept s u' m R B v r
theorem Q6 (l:List FT) (ho:FOk l) (n:Int) (links:Bool):Wq l n false links:=by
 intro s q B0 H
 obtain ⟨r,q1,hcall,vs,B1,rfl,H1,hvl,hspec⟩:=fn_G (f:=BX) (args:=[.agg [.i .i64 n,.b false],.b links]) (s:=q) (Post:=fun r q1=>∃ vs B1,r=.ws false 1 vs∧Hp s q1 s.en [] B1∧vs.length=Ez links+1∧∃ b,(b,Box.cells 44 [.i .i64 n,.b false])∈B1∧∀ j,j < Ez links+1→∃ kb,vs[j]? = some (.fn AZ [.p b 0,.p kb 0])∧(kb,Box.cells 5 [.i .u8 (j:Nat)])∈B1) GX rfl rfl (by
  have hz0:wkZ Aa.cin [.agg [.i .i64 n,.b false],.b links]=[.agg [.i .i64 n,.b false],.b links]:=by simp [Aa,wkZ,wk]
  rw [hz0]
  have H1:=H.enter.new (.cells 44 [.i .i64 n,.b false])
  have l1:=H1.ld 0 (off:=1) (v:=.b false) rfl rfl
  have H2:=H1.new (.cells 70 [.nsl])
  have hb1:(q.enter.new (.cells 44 [.i .i64 n,.b false])).nb=q.enter.nb+1:=rfl
  obtain ⟨u,hu⟩:∃ u,(q.enter.new (.cells 44 [.i .i64 n,.b false])).new (.cells 70 [.nsl])=u:=⟨_,rfl⟩
  rw [hu] at H2
  have hk:=Y7 links u
  have hub:u.nb=q.enter.nb+2:=by rw [← hu]; rfl
  have hlo:u.lo≤u.nb:=by rw [← hu]; show q.nb≤q.nb+2; omega
  have H3:=(H2.new (.cells 4 [.b links])).setLo (m:=min u.lo u.nb) (Nat.le_trans (Nat.min_le_left _ _) H2.lo) (by have:=H2.over.lo; have:=H2.over.nb; omega)
  obtain ⟨u3,hu3⟩:∃ u3,{ u.new (.cells 4 [.b links]) with lo:=min u.lo u.nb }=u3:=⟨_,rfl⟩
  rw [hu3] at H3 hk
  have hu3b:u3.nb=u.nb+1:=by rw [← hu3]; rfl
  rw [hb1] at H3
  simp only [Aa,go_sem,AD,AA,AC,AB,KB_n,KB_x,Nat.reduceBEq,Nat.reduceAdd,Nat.reduceLT,Nat.reduceLeDiff,Nat.reduceEqDiff,reduceIte,Int.reduceEq,reduceCtorEq,List.length_cons,List.length_nil,Nat.zero_add,l1,hu,hk]
  refine aX (g:=Bu) (caps:=[.p u.nb 0]) (by simp only [go_sem,AD,AA,AC,AB,KB_n,KB_x,Nat.reduceBEq,Nat.reduceAdd,Nat.reduceLT,Nat.reduceLeDiff,Nat.reduceEqDiff,reduceIte,Int.reduceEq,reduceCtorEq]) fun e he=>?_
  have g2:e.get 2=.p q.enter.nb 0:=by rw [he]; simp only [go_sem,AD,AA,AC,AB,KB_n,KB_x,Nat.reduceBEq,Nat.reduceAdd,Nat.reduceLT,Nat.reduceLeDiff,Nat.reduceEqDiff,reduceIte,Int.reduceEq,reduceCtorEq]
  have g5:e.get 5=.p (q.enter.nb+1) 0:=by rw [he]; simp only [go_sem,AD,AA,AC,AB,KB_n,KB_x,Nat.reduceBEq,Nat.reduceAdd,Nat.reduceLT,Nat.reduceLeDiff,Nat.reduceEqDiff,reduceIte,Int.reduceEq,reduceCtorEq]
  have H4:=(H3.new (.loop 0 none e [14] kA kC)).addFull 1 72 true .nil
  have hKI:KI s (u3.new (.loop 0 none e [14] kA kC)) q.en e (q.enter.nb+1) u3.nb q.enter.nb [(u.nb,.cells 4 [.b links]),(q.enter.nb,.cells 44 [.i .i64 n,.b false])] 0 :=
   ⟨.nsl,[],_,H4,by simp,by simp,by simp,fun h=>absurd rfl h,rfl,fun j hj=>absurd hj (by omega)⟩
  obtain ⟨q',hc,a,xs,B,H5,k1,k2,k3,k4,k5,k6⟩:=Wn (kb:=u.nb) (links:=links) (by simp) hKI (by simp) g2 g5
  obtain ⟨i2,hi2⟩:=List.mem_iff_getElem?.1 k2
  refine ⟨_,_,hc,_,_,_,_,_,_,(H5.box hi2).1,by decide,?_⟩
  have H6:=H5.setBox hi2 .used
  obtain ⟨q6,hq6⟩:∃ q6,q'.setBox u3.nb .used=q6:=⟨_,rfl⟩
  rw [hq6] at H6
  obtain ⟨i1,hi1⟩:=List.mem_iff_getElem?.1 (LG (a:=(u3.nb,Box.used)) hi2 k1 (by simp))
  have la:=H6.ld i1 (off:=0) (v:=a) hi1 rfl
  obtain ⟨a3,q7,d3,t3,H7,n3⟩:=H6.pub 0 rfl
  have d4:pubA q6 a=some (a3,q7):=by
   rw [L7 (H6.rows (i:=0) rfl)]; exact d3
  have lr:=(H6.rld 0 rfl).1
  simp only [hq6,go_sem,AD,AA,AC,AB,KB_n,KB_x,Nat.reduceBEq,Nat.reduceAdd,Nat.reduceLT,Nat.reduceLeDiff,Nat.reduceEqDiff,reduceIte,Int.reduceEq,reduceCtorEq,g2,g5,la,lr,d4]
  simp only at t3
  obtain ⟨kb0,k60,_⟩:=k6 0 (by omega)
  have hgo:AV.refs.go xs=true:=by
   cases xs with
   | nil=>simp at k60
   | cons v vs =>
     simp only [List.getElem?_cons_zero,Option.some.injEq] at k60
     subst k60
     rfl
  have hrf:(CZ [a3]).refs=true:=by
   simp only [CZ]
   rcases t3 with ⟨_,rfl⟩ | ⟨_,rfl⟩ | rfl | rfl | rfl | rfl<;>first | exact hgo | cases hgo
  have hwk:CZ (wkZ [.sl 1 .id] [a3])=.ws false 1 xs:=by
   simp only [wkZ,CZ]
   exact t3.wk (Wo xs)
  have H8:=(H.leaveR (n1:=q.en) (v:=CZ [a3]) H7.dropR hrf)
  refine ⟨_,_,rfl,xs,_,hwk,H8,k5,q.enter.nb,LG hi2 (k3 _ (by simp)) (by simp),fun j hj=>?_⟩
  obtain ⟨kb,z1,z2⟩:=k6 j hj
  exact ⟨kb,z1,LG hi2 z2 (by simp)⟩)
 obtain ⟨b,hb,hspec⟩:=hspec
 have hans:C1 l n false links=(List.range (Ez links+1)).map fun k=>D0 l n k:=by simp [C1]
 refine ⟨vs,q1,B1,hcall,H1,by rw [hans]; simpa using hvl,fun j r hr=>?_⟩
 rw [hans,List.getElem?_map] at hr
 by_cases hj:j < Ez links+1
 · rw [List.getElem?_range hj] at hr
   simp only [Option.map_some,Option.some.injEq] at hr
   subst hr
   obtain ⟨kb,z1,z2⟩:=hspec j hj
   refine ⟨_,_,z1,fun {u m R B} HB hB=>?_⟩
   obtain ⟨j1,h1⟩:=List.mem_iff_getElem?.1 (hB _ hb)
   obtain ⟨j2,h2⟩:=List.mem_iff_getElem?.1 (hB _ z2)
   exact Y5 l ho HB h1 h2
 · rw [List.getElem?_eq_none (by simpa using hj)] at hr
   simp at hr
theorem Q7 (l:List FT) (ho:FOk l) (n:Int) (links:Bool):Wq l n true links:=by
 intro s q B0 H
 have H1:=H.new (.cells 44 [.i .i64 n,.b true])
 have hlo:min q.lo q.nb≤s.en.lo:=Nat.le_trans (Nat.min_le_left _ _) H.lo
 have hnb:s.nb≤min q.lo q.nb:=by have:=H.over.lo; have:=H.over.nb; omega
 have H2:=H1.setLo (m:=min q.lo q.nb) hlo hnb
 refine ⟨_,_,_,Wm n links q,H2,by simp [C1],fun j r hr=>?_⟩
 have hans:C1 l n true links=[DV l n,FA l n]:=by simp [C1]
 rw [hans] at hr
 cases j with
 | zero =>
   simp only [List.getElem?_cons_zero,Option.some.injEq] at hr
   subst hr
   refine ⟨_,_,rfl,fun {u m R B} HB hB=>?_⟩
   obtain ⟨j1,h1⟩:=List.mem_iff_getElem?.1 (hB (q.nb,.cells 44 [.i .i64 n,.b true]) List.mem_cons_self)
   exact Y3 l ho HB h1
 | succ j=>cases j with
   | zero =>
     simp only [List.getElem?_cons_succ,List.getElem?_cons_zero,Option.some.injEq] at hr
     subst hr
     refine ⟨_,_,rfl,fun {u m R B} HB hB=>?_⟩
     obtain ⟨j1,h1⟩:=List.mem_iff_getElem?.1 (hB (q.nb,.cells 44 [.i .i64 n,.b true]) List.mem_cons_self)
     exact Y4 l ho HB h1
   | succ j=>simp at hr
theorem callsK (l:List FT) (ho:FOk l) (n:Int) (em links:Bool):Wq l n em links:=by
 cases em
 · exact Q6 l ho n links
 · exact Q7 l ho n links

abbrev Way:=Nat×List KQ
def E0 (w:Way):List (Nat×Box):=rowK w.1 w.2::bxs w.2
def wayB (W:List Way):List (Nat×Box):=W.flatMap E0
def wayV (w:Way):AV:=.bl w.1 6 0 w.2.length (w.2.length*6,false)
def wayF (w:Way):List FT:=w.2.map KQ.f
theorem _root_.Go.Proofs.YtgloinighjdhlaaGreat.Am.Hp.takeB {s0 s:St} {n:En} {R:List RA} {A C:List (Nat×Box)} (H:Hp s0 s n R (A++C)):Hp s0 s n R A where
 wf:=H.wf
 over:=H.over
 lo:=H.lo
 nb:=H.nb
 nt:=H.nt
 rows:=H.rows
 apart:=H.apart
 box:=fun {i p} h=>H.box (i:=i) (by rw [List.getElem?_append_left (List.getElem?_eq_some_iff.1 h).1]; exact h)
 bapart:=fun {i j p q} hne h1 h2=>H.bapart hne (by rw [List.getElem?_append_left (List.getElem?_eq_some_iff.1 h1).1]; exact h1) (by rw [List.getElem?_append_left (List.getElem?_eq_some_iff.1 h2).1]; exact h2)
def TX (s0 s':St) (m:En) (B:List (Nat×Box)) (r:AV) (P:List (List FT)×Int):Prop :=
 (P.2≠0∧r=.tup [.nsl,.i .i64 P.2]∧Hp s0 s' m [] B)∨(P.2=0∧∃ a W,r=.tup [a,.i .i64 0]∧Hp s0 s' m [⟨1,22,a,W.map wayV,true⟩] (wayB W++B)∧(∀ w∈W,KBk w.2)∧W.map wayF=P.1∧((W=[]∧a=.nsl)∨∃ k v,a=.sl 1 (W.map wayV) (.tok k v)))
theorem ways_K (l:List FT) (ho:FOk l) (n:Int) (em links:Bool) {s0 s:St} {m:En} {B:List (Nat×Box)} (H:Hp s0 s m [] B) :
    ∃ r s',(lim Aq).call Db [fx l,.agg [.i .i64 n,.b em],.b links] s=some (r,s')∧TX s0 s' m B r (waysP l n em links):=by
 have hz0:wkZ Dd.cin [fx l,.agg [.i .i64 n,.b em],.b links]=[fx l,.agg [.i .i64 n,.b em],.b links]:=by
  simp only [Dd,wkZ,SD,wk]
 have hw:=H.wf
 rw [← Y6]
 refine QI (t:=6) (u:=7) (s:=s) (args:=[fx l,.agg [.i .i64 n,.b em],.b links]) (Post:=fun r s'=>TX s0 s' m B r (goW (C1 l n em links) [])) Q0 rfl rfl rfl (by rw [hz0]; rfl) ?_
 rw [hz0]
 have HE:=H.enter
 have H1:=(Hp.begin hw).new (.cells 44 [.i .i64 n,.b em])
 generalize hq:s.enter.new (.cells 44 [.i .i64 n,.b em])=q at H1
 generalize hm:s.enter.nb=k at H1
 have lw:=H1.ldw (m:=2) 0 rfl rfl
 obtain ⟨vs,q1,B1,hc,H2,hvl,hspec⟩:=callsK l ho n em links H1
 have hal:(C1 l n em links).length≤4:=by
  have hmk:Ez links≤3:=by unfold Ez; split<;>omega
  unfold C1
  split
  · simp
  · simp; omega
 simp only [Dd,go_sem,AD,AA,AC,AB,KB_n,KB_x,Nat.reduceBEq,Nat.reduceAdd,Nat.reduceLT,Nat.reduceLeDiff,Nat.reduceEqDiff,reduceIte,Int.reduceEq,reduceCtorEq,hq,hm,List.length_cons,List.length_nil,Nat.zero_add,fx,lw,hc,hvl]
 refine Br (fun x e q=>∃ (i:Nat) (a:AV) (W:List Way),i+x=(C1 l n em links).length∧Hp s q s.en [⟨1,22,a,W.map wayV,true⟩] (wayB W++B1)∧W.length≤i∧(∀ w∈W,KBk w.2)∧((W=[]∧a=.nsl)∨∃ k v,a=.sl 1 (W.map wayV) (.tok k v))∧goW ((C1 l n em links).drop i) (W.map wayF)=goW (C1 l n em links) []∧e.get 0=fx l∧e.get 8=a∧e.get 15=.ws false 1 vs∧e.get 16=.i .i64 ((C1 l n em links).length:Nat)∧e.get 17=.i .i64 (i:Nat)) ?_ (C1 l n em links).length _ _ ?_
 · rintro x e q ⟨i,a,W,hix,HW,hWl,hWk,hsh,hgo,g0,g8,g15,g16,g17⟩
   by_cases h:i < (C1 l n em links).length
   · have h1:((i:Int) < ((C1 l n em links).length:Int))=True:=eq_true (by omega)
     obtain ⟨r,hr⟩:∃ r,(C1 l n em links)[i]? = some r:=⟨_,List.getElem?_eq_getElem h⟩
     obtain ⟨g,caps,hv,hcall⟩:=hspec i r hr
     obtain ⟨v,u',hca,hK⟩:=hcall HW (fun p hp=>List.mem_append_right _ hp)
     have hw1:=Aj (show i+1 < 2^63 by omega)
     rw [bw hr,goW] at hgo
     have lfn:∀ u:St,ldA u false 1 (.ep [.fn g caps] 0 .shut)=some (.fn g caps):=fun _=>rfl
     unfold fx at hca
     rcases hK with ⟨r0,rfl,HK⟩ | ⟨r0,id,rfl,K,HK,hKk,hKf⟩
     · have e1:(r.2=0)=False:=by simp [r0]
       rw [if_neg r0] at hgo
       by_cases r6:r.2=67
       · have e2:(r.2=67)=True:=by simp [r6]
         rw [if_pos r6] at hgo
         simp only [go_sem,AD,AA,AC,AB,KB_n,KB_x,Nat.reduceBEq,Nat.reduceAdd,Nat.reduceLT,Nat.reduceLeDiff,Nat.reduceEqDiff,reduceIte,Int.reduceEq,reduceCtorEq,g0,g8,g15,g16,g17,fx,h1,AH,hv,lfn,hca,e1,e2,hw1]
         exact ⟨x - 1,by omega,i+1,a,W,by omega,HK,by omega,hWk,hsh,hgo,rfl,rfl⟩
       · have e2:(r.2=67)=False:=by simp [r6]
         rw [if_neg r6] at hgo
         simp only [go_sem,AD,AA,AC,AB,KB_n,KB_x,Nat.reduceBEq,Nat.reduceAdd,Nat.reduceLT,Nat.reduceLeDiff,Nat.reduceEqDiff,reduceIte,Int.reduceEq,reduceCtorEq,g0,g8,g15,g16,g17,fx,h1,AH,hv,lfn,hca,e1,e2,Kq,Kr]
         rw [← hgo]
         refine .inl ⟨r0,rfl,?_⟩
         have hj:=H.join (HK.dropR.sel [] [] (by simp) (by simp))
         exact H.back hj
     · have e1:(r.2=0)=True:=by simp [r0]
       rw [if_pos r0] at hgo
       have hKl:r.1.length=K.length:=by rw [← hKf,List.length_map]
       obtain ⟨a2,q2,d2,H3,n3,p3⟩:=HK.app 0 (y:=.sl 1 [.bl id 6 0 r.1.length (r.1.length*6,false)] .full) (ys:=[wayV (id,K)]) rfl (by unfold wayV; rw [hKl]; rfl) (by simp; omega)
       have hall:Ah 1 [AV.bl id 6 0 r.1.length (r.1.length*6,false)]=true:=rfl
       have e0:((0:Int)=0)=True:=by simp
       simp only [go_sem,AD,AA,AC,AB,KB_n,KB_x,Nat.reduceBEq,Nat.reduceAdd,Nat.reduceLT,Nat.reduceLeDiff,Nat.reduceEqDiff,reduceIte,Int.reduceEq,reduceCtorEq,g0,g8,g15,g16,g17,fx,h1,AH,hv,lfn,hca,e0,hall,d2,hw1]
       refine ⟨x - 1,by omega,i+1,a2,W++[(id,K)],by omega,?_,by simp; omega,?_,?_,?_,rfl,rfl⟩
       · rw [List.map_append]
         refine H3.perm (.refl _) ?_
         have e3:wayB (W++[(id,K)])++B1=wayB W++(E0 (id,K)++B1):=by
          unfold wayB; simp
         rw [e3]
         have e4:rowK id K::(bxs K++(wayB W++B1))=E0 (id,K)++(wayB W++B1):=rfl
         rw [e4,← List.append_assoc,← List.append_assoc]
         exact List.perm_append_comm.append_right _
       · intro w hwm
         rcases List.mem_append.1 hwm with hwm | hwm
         · exact hWk w hwm
         · simp only [List.mem_singleton] at hwm
           subst hwm; exact hKk
       · refine .inr ?_
         rcases H3.rows (i:=0) rfl with hh | ⟨kk,vv,tt,hh,_⟩
         · exact absurd (Ea hh) (p3 (by simp)).1
         · refine ⟨kk,vv,?_⟩
           rw [List.map_append]
           exact hh
       · rw [List.map_append]
         show goW _ (W.map wayF++[wayF (id,K)])=_
         rw [show wayF (id,K)=r.1 from hKf]
         exact hgo
   · have h1:((i:Int) < ((C1 l n em links).length:Int))=False:=eq_false (by omega)
     rw [List.drop_of_length_le (by omega),goW] at hgo
     simp only [go_sem,AD,AA,AC,AB,KB_n,KB_x,Nat.reduceBEq,Nat.reduceAdd,Nat.reduceLT,Nat.reduceLeDiff,Nat.reduceEqDiff,reduceIte,Int.reduceEq,reduceCtorEq,g0,g8,g15,g16,g17,h1,Kq,Kr]
     rw [← hgo]
     refine .inr ⟨rfl,a,W,rfl,?_,hWk,rfl,hsh⟩
     have hj:=H.join HW.takeB
     exact H.back hj
 · simp only [go_sem,AD,AA,AC,AB,KB_n,KB_x,Nat.reduceBEq,Nat.reduceAdd,Nat.reduceLT,Nat.reduceLeDiff,Nat.reduceEqDiff,reduceIte,Int.reduceEq,reduceCtorEq]
   exact ⟨0,.nsl,[],by omega,H2.addFull 1 22 true .nil,by simp,(fun w hw=>by simp at hw),.inl ⟨rfl,rfl⟩,rfl,rfl,rfl,rfl⟩
end Go.Proofs.YtgloinighjdhlaaGreat

namespace Go.Proofs.YtgloinighjdhlaaGreat
open Go.Proofs.YtgloinighjdhlaaGreat.Am
def One (cs:List AV):Prop:=∀ c∈cs,c.cells=[c]∧ones [c]=true
theorem One.ones:∀ {cs:List AV},One cs→ones cs=true
 | [],_=>rfl
 | c::cs,h=>SY (a:=[c]) (h c (by simp)).2 (One.ones fun x hx=>h x (by simp [hx]))
theorem One.flat:∀ {cs:List AV},One cs→Cc cs=cs
 | [],_=>rfl
 | c::cs,h=>by
   rw [Cc,(h c (by simp)).1,One.flat fun x hx=>h x (by simp [hx])]; rfl
theorem one_s (L:List (List Nat)):One (L.map AV.s):=fun c hc=>by
 obtain ⟨x,_,rfl⟩:=List.mem_map.1 hc
 exact ⟨rfl,rfl⟩
theorem one_i (L:List Int):One (L.map iv):=fun c hc=>by
 obtain ⟨x,_,rfl⟩:=List.mem_map.1 hc
 exact ⟨rfl,rfl⟩
def TK (K:List KQ):Prop:=∀ p∈K,Cs p.nm=some (tx p.f.names)∧Cs p.a=some (zx p.f.kids)∧(∀ l,ones (p.nm::l)=ones l)∧∀ l,ones (p.a::l)=ones l
theorem TK.all {K:List KQ} (h:TK K):Ah 6 (K.map KQ.av)=true:=by
 induction K with
 | nil=>rfl
 | cons p K ih =>
   obtain ⟨_,_,h3,h4⟩:=h p (by simp)
   rw [List.map_cons,Ah,ih fun q hq=>h q (by simp [hq])]
   have:ones p.av.cells=true:=by
    show ones (AV.b p.f.known::AV.i .u8 (p.f.kind:Nat)::p.nm::p.a::[.i .i64 p.f.rest,.i .i64 p.f.beside])=true
    simp only [ones,h3,h4]
   rw [this]; rfl
theorem TK.tell {K:List KQ} (h:TK K):Ey (K.map KQ.av)=some ((K.map KQ.f).map FT.av):=by
 induction K with
 | nil=>rfl
 | cons p K ih =>
   obtain ⟨h1,h2,_,_⟩:=h p (by simp)
   have hp:Cs p.av=some p.f.av:=Pk (Bt rfl (Bt rfl (Bt h1 (Bt h2 (Bt rfl (Bt rfl rfl))))))
   rw [List.map_cons,List.map_cons,List.map_cons]
   exact Bt hp (ih fun q hq=>h q (by simp [hq]))
section
variable {s0 s:St} {n:En} {R:List RA} {B:List (Nat×Box)}
theorem Y8 (H:Hp s0 s n R B) (i:Nat) {id T rm:Nat} {cs:List AV} (h:B[i]? = some (id,.row T cs false rm)) (hc:One cs) (p:Nat×Bool) :
    ∃ s',frz s (.bl id 1 0 cs.length p)=some (.sl 1 cs .shut,s')∧Hp s0 s' n R (B.set i (id,.row T cs true rm)):=by
 have hb:=(H.box h).1
 simp only at hb
 have hcu:cut cs 0 (cs.length*1)=some cs:=by
  unfold cut
  rw [List.drop_zero,Nat.mul_one,List.take_of_length_le (Nat.le_refl _),if_pos rfl]
 refine ⟨_,?_,H.setBox h (.row T cs true rm)⟩
 simp only [frz,hb,hcu]
 rw [if_pos ⟨Nat.zero_le _,hc.ones,by decide⟩,M9 rfl]
theorem Zm {T:Nat} {a:AV} {xs:List AV} (H:Hp s0 s n R (cb T a xs++B)) (hc:okC a xs) (h1:One xs) (ht:Ey xs=some xs) (hal:Ah 1 xs=true) :
    ∃ a' s',frz s a=some (a',s')∧Hp s0 s' n R B∧Cs a'=some (.ws false 1 xs)∧∀ l,ones (a'::l)=ones l:=by
 rcases hc with ⟨id,rfl⟩ | ⟨rfl,rfl⟩
 · obtain ⟨s',d,H'⟩:=Y8 H 0 (id:=id) (T:=T) (cs:=xs) (rm:=0) rfl h1 (xs.length,false)
   refine ⟨_,s',d,H'.dropB,?_,fun _=>rfl⟩
   simp only [Cs,ht,hal,if_true]
 · refine ⟨_,s,rfl,H,rfl,fun _=>rfl⟩
theorem Zn:∀ (K:List KQ) {s:St},Hp s0 s n R (bxs K++B)→KBk K→∃ K' s',frzE s (K.map KQ.av)=some (K'.map KQ.av,s')∧K'.map KQ.f=K.map KQ.f∧TK K'
 | [],s,H,_=>⟨[],s,rfl,rfl,fun p hp=>by simp at hp⟩
 | p :: K,s,H,hK=>by
   have H0:Hp s0 s n R (cb 9 p.nm (p.f.names.map .s)++(cb 3 p.a (p.f.kids.map iv)++(bxs K++B))):=by
    rw [← List.append_assoc,← List.append_assoc]; exact H
   obtain ⟨ok1,ok2⟩:=hK p (by simp)
   obtain ⟨b',s1,d1,H1,t1,o1⟩:=Zm H0 ok1 (one_s _) (GY AV.s _ fun _ _=>rfl) (Ev AV.s 1 _ fun _ _=>⟨rfl,rfl⟩)
   obtain ⟨a',s2,d2,H2,t2,o2⟩:=Zm H1 ok2 (one_i _) (GY iv _ fun _ _=>rfl) (Ev iv 1 _ fun _ _=>⟨rfl,rfl⟩)
   obtain ⟨K',s3,d3,h3,h4⟩:=Zn K H2 fun q hq=>hK q (by simp [hq])
   refine ⟨⟨p.f,b',a'⟩::K',s3,?_,by simp [h3],?_⟩
   · have:frzL s p.cells=some ((⟨p.f,b',a'⟩:KQ).cells,s2):=by
      simp only [KQ.cells,frzL,frz_b,frz_i,d1,d2]
     rw [List.map_cons]
     show frzE s (.agg p.cells::_)=_
     simp only [frzE,this,d3]
     rfl
   · intro q hq
     rcases List.mem_cons.1 hq with rfl | hq
     · exact ⟨t1,t2,o1,o2⟩
     · exact h4 q hq
theorem OX {id:Nat} {K:List KQ} (H:Hp s0 s n R (E0 (id,K)++B)) (hK:KBk K) (p:Nat×Bool):TU s (.bl id 6 0 K.length p) (K.map KQ.f):=by
 have H':Hp s0 s n R (rowK id K::(bxs K++B)):=H
 have hb:=(H'.box (i:=0) rfl).1
 simp only at hb
 obtain ⟨h1,h2⟩:=Zv hK.cells
 rw [List.length_map] at h1
 have hc:cut (Cc (K.map KQ.av)) 0 (K.length*6)=some (Cc (K.map KQ.av)):=by
  unfold cut
  rw [List.drop_zero,List.take_of_length_le (by omega),if_pos h1]
 have hfz:frz s (.bl id 6 0 K.length p)=some (.sl 6 (K.map KQ.av) .shut,s.setBox id (.row 48 (Cc (K.map KQ.av)) true 0)):=by
  simp only [frz,hb,hc]
  rw [if_pos ⟨Nat.zero_le _,h2,by decide⟩,Zw]
 have H2:=(H'.setBox (i:=0) rfl (.row 48 (Cc (K.map KQ.av)) true 0)).dropB
 obtain ⟨K',s',d,h3,h4⟩:=Zn K H2 hK
 refine ⟨.sl 6 (K'.map KQ.av) .shut,s',?_,?_⟩
 · simp only [Tz,hfz,d,h4.all,if_true]
 · have hal:=Ev FT.av 6 (K'.map KQ.f) fun _ _=>⟨rfl,rfl⟩
   simp only [Cs,h4.tell,hal,if_true,h3,fx]
   rw [h3] at hal
   rw [if_pos hal]
end
end Go.Proofs.YtgloinighjdhlaaGreat

namespace Go.Proofs.YtgloinighjdhlaaGreat
open Go.Proofs.YtgloinighjdhlaaGreat.Am
attribute [local irreducible] W WO WE WQ WD Tr.get Tr.set
theorem TY {α:Type} {A C D:List α}:(A++(C++D)).Perm (C++(A++D)):=by
 rw [← List.append_assoc,← List.append_assoc]
 exact List.perm_append_comm.append_right _
theorem Zo (T:Nat) (a:AV) (xs ys:List AV):(cb T a xs).map (·.1)=(cb T a ys).map (·.1):=by
 unfold cb
 split<;>rfl
theorem SI {K:List KQ} {i:Nat} {p:KQ} (h:K[i]? = some p) (g:FT):(bxs (K.set i ⟨g,p.nm,p.a⟩)).map (·.1)=(bxs K).map (·.1):=by
 induction K generalizing i with
 | nil=>simp at h
 | cons q K ih =>
   cases i with
   | zero =>
     simp only [List.getElem?_cons_zero,Option.some.injEq] at h
     subst h
     show (bx1 ⟨g,q.nm,q.a⟩++bxs K).map (·.1)=(bx1 q++bxs K).map (·.1)
     rw [List.map_append,List.map_append]
     congr 1
     unfold bx1
     rw [List.map_append,List.map_append,Zo 9 q.nm _ (q.f.names.map .s),Zo 3 q.a _ (q.f.kids.map iv)]
   | succ i =>
     show (bx1 q++bxs (K.set i ⟨g,p.nm,p.a⟩)).map (·.1)=(bx1 q++bxs K).map (·.1)
     rw [List.map_append,List.map_append,ih (by simpa using h)]
section
variable {s0 s:St} {n:En} {R:List RA} {B:List (Nat×Box)} {id i:Nat} {K:List KQ} {p:KQ}
theorem focN (H:Hp s0 s n R (E0 (id,K)++B)) (hp:K[i]? = some p):Hp s0 s n R (cb 9 p.nm (p.f.names.map .s)++(rowK id K::(cb 3 p.a (p.f.kids.map iv)++(bxs (K.eraseIdx i)++B)))):=by
 refine H.perm (.refl _) ?_
 have h0:(bxs K).Perm (cb 9 p.nm (p.f.names.map .s)++cb 3 p.a (p.f.kids.map iv)++bxs (K.eraseIdx i)):=Yy (φ:=bx1) hp
 have h1:(E0 (id,K)++B).Perm (rowK id K::(cb 9 p.nm (p.f.names.map .s)++(cb 3 p.a (p.f.kids.map iv)++(bxs (K.eraseIdx i)++B)))):=by
  have:=(h0.append_right B).cons (rowK id K)
  simpa only [E0,List.append_assoc,List.cons_append] using this
 exact h1.trans List.perm_middle.symm
theorem Zp {g:KQ} (hp:K[i]? = some p) (H:Hp s0 s n R (cb 9 g.nm (g.f.names.map .s)++(rowK id (K.set i g)::(cb 3 g.a (g.f.kids.map iv)++(bxs (K.eraseIdx i)++B))))):Hp s0 s n R (E0 (id,K.set i g)++B):=by
 refine H.perm (.refl _) ?_
 have h0:(bxs (K.set i g)).Perm (cb 9 g.nm (g.f.names.map .s)++cb 3 g.a (g.f.kids.map iv)++bxs (K.eraseIdx i)):=Wb (φ:=bx1) hp
 have h1:(E0 (id,K.set i g)++B).Perm (rowK id (K.set i g)::(cb 9 g.nm (g.f.names.map .s)++(cb 3 g.a (g.f.kids.map iv)++(bxs (K.eraseIdx i)++B)))):=by
  have:=(h0.append_right B).cons (rowK id (K.set i g))
  simpa only [E0,List.append_assoc,List.cons_append] using this
 exact List.perm_middle.trans h1.symm
theorem TZ {g:KQ} (hp:K[i]? = some p) (hc:g.cells=p.cells):rowK id (K.set i g)=rowK id K:=by
 have:(K.set i g).map KQ.av=K.map KQ.av:=by
  rw [List.map_set]
  refine TS ?_
  rw [List.getElem?_map,hp]
  show some (AV.agg p.cells)=some (.agg g.cells)
  rw [hc]
 unfold rowK
 rw [this]
theorem spoilN (H:Hp s0 s n R (E0 (id,K)++B)) (hK:KBk K) (hp:K[i]? = some p) {k:Nat} (hk:k < p.f.names.length) (t:List Nat) :
    ∃ id2 s',p.nm=.bl id2 1 0 p.f.names.length (p.f.names.length,false)∧stA s 1 (.p id2 k) (.s t)=some s'∧Hp s0 s' n R (E0 (id,K.set i ⟨{ p.f with names:=p.f.names.set k t },p.nm,p.a⟩)++B)∧KBk (K.set i ⟨{ p.f with names:=p.f.names.set k t },p.nm,p.a⟩):=by
 have HF:=focN H hp
 obtain ⟨ok1,ok2⟩:=hK p (List.mem_of_getElem? hp)
 rcases ok1 with ⟨id2,hnm⟩ | ⟨_,he⟩
 · rw [List.length_map] at hnm
   have hcb:cb 9 p.nm (p.f.names.map .s)=[(id2,.row 9 (p.f.names.map .s) false 0)]:=by rw [hnm]; rfl
   rw [hcb] at HF
   obtain ⟨s',d,H'⟩:=HF.stR 0 (off:=k) (v:=.s t) rfl (by rw [List.length_map]; exact hk) ⟨rfl,rfl⟩
   refine ⟨id2,s',hnm,d,?_,?_⟩
   · refine Zp hp ?_
     rw [TZ (g:=⟨{ p.f with names:=p.f.names.set k t },p.nm,p.a⟩) hp rfl]
     have hcb2:cb 9 p.nm ((p.f.names.set k t).map .s)=[(id2,.row 9 ((p.f.names.map .s).set k (.s t)) false 0)]:=by rw [hnm,List.map_set]; rfl
     show Hp s0 s' n R (cb 9 p.nm ((p.f.names.set k t).map .s)++_)
     rw [hcb2]
     exact H'
   · refine hK.set ⟨?_,ok2⟩
     refine .inl ⟨id2,?_⟩
     show p.nm=_
     rw [hnm,List.length_map,List.length_set]
 · rw [List.map_eq_nil_iff] at he
   rw [he] at hk; simp at hk
theorem focK (H:Hp s0 s n R (E0 (id,K)++B)) (hp:K[i]? = some p):Hp s0 s n R (cb 3 p.a (p.f.kids.map iv)++(rowK id K::(cb 9 p.nm (p.f.names.map .s)++(bxs (K.eraseIdx i)++B)))):=by
 refine (focN H hp).perm (.refl _) ?_
 refine List.perm_middle.trans (.trans ?_ List.perm_middle.symm)
 exact List.Perm.cons _ TY
theorem unfocK {g:KQ} (hp:K[i]? = some p) (H:Hp s0 s n R (cb 3 g.a (g.f.kids.map iv)++(rowK id (K.set i g)::(cb 9 g.nm (g.f.names.map .s)++(bxs (K.eraseIdx i)++B))))):Hp s0 s n R (E0 (id,K.set i g)++B):=by
 refine Zp hp (H.perm (.refl _) ?_)
 refine List.perm_middle.trans (.trans ?_ List.perm_middle.symm)
 exact List.Perm.cons _ TY
theorem spoilK (H:Hp s0 s n R (E0 (id,K)++B)) (hK:KBk K) (hp:K[i]? = some p) {k:Nat} (hk:k < p.f.kids.length) (t:Int) :
    ∃ id2 s',p.a=.bl id2 1 0 p.f.kids.length (p.f.kids.length,false)∧stA s 1 (.p id2 k) (.i .i64 t)=some s'∧Hp s0 s' n R (E0 (id,K.set i ⟨{ p.f with kids:=p.f.kids.set k t },p.nm,p.a⟩)++B)∧KBk (K.set i ⟨{ p.f with kids:=p.f.kids.set k t },p.nm,p.a⟩):=by
 have HF:=focK H hp
 obtain ⟨ok1,ok2⟩:=hK p (List.mem_of_getElem? hp)
 rcases ok2 with ⟨id2,hnm⟩ | ⟨_,he⟩
 · rw [List.length_map] at hnm
   have hcb:cb 3 p.a (p.f.kids.map iv)=[(id2,.row 3 (p.f.kids.map iv) false 0)]:=by rw [hnm]; rfl
   rw [hcb] at HF
   obtain ⟨s',d,H'⟩:=HF.stR 0 (off:=k) (v:=.i .i64 t) rfl (by rw [List.length_map]; exact hk) ⟨rfl,rfl⟩
   refine ⟨id2,s',hnm,d,?_,?_⟩
   · refine unfocK hp ?_
     rw [TZ (g:=⟨{ p.f with kids:=p.f.kids.set k t },p.nm,p.a⟩) hp rfl]
     have hcb2:cb 3 p.a ((p.f.kids.set k t).map iv)=[(id2,.row 3 ((p.f.kids.map iv).set k (.i .i64 t)) false 0)]:=by rw [hnm,List.map_set]; rfl
     show Hp s0 s' n R (cb 3 p.a ((p.f.kids.set k t).map iv)++_)
     rw [hcb2]
     exact H'
   · refine hK.set ⟨ok1,?_⟩
     refine .inl ⟨id2,?_⟩
     show p.a=_
     rw [hnm,List.length_map,List.length_set]
 · rw [List.map_eq_nil_iff] at he
   rw [he] at hk; simp at hk
theorem Zq (hK:KBk K) (hp:K[i]? = some p) (q:St):lenA q 1 p.nm=some (.i .i64 (p.f.names.length:Nat))∧lenA q 1 p.a=some (.i .i64 (p.f.kids.length:Nat)):=by
 obtain ⟨ok1,ok2⟩:=hK p (List.mem_of_getElem? hp)
 have h1:=(NK ok1 q).1
 have h2:=(NK ok2 q).1
 rw [List.length_map] at h1 h2
 exact ⟨h1,h2⟩
theorem ld_nm (hK:KBk K) (hp:K[i]? = some p):(∀ q:St,ldR q (some p.nm)=some (p.nm,q))∧∀ q:St,ldR q (some p.a)=some (p.a,q):=by
 obtain ⟨ok1,ok2⟩:=hK p (List.mem_of_getElem? hp)
 exact ⟨(NK ok1 s0).2.1,(NK ok2 s0).2.1⟩
end
theorem Wr (id:Nat) (K:List KQ) (B:List (Nat×Box)):(E0 (id,K)++B).map (·.1)=id::((bxs K).map (·.1)++B.map (·.1)):=by simp [E0]
def spoilT:List Nat:=[115,112,111,105,108,116]
def SK (N:Nat) (K:List KQ):Prop:=K.length=N∧KBk K∧∀ p∈K,p.f.names.length < 2^34∧p.f.kids.length < 2^34
theorem SK.setN {N:Nat} {K:List KQ} (h:SK N K) {i k:Nat} {p:KQ} {t:List Nat} (hp:K[i]? = some p) (hK:KBk (K.set i ⟨{ p.f with names:=p.f.names.set k t },p.nm,p.a⟩)):SK N (K.set i ⟨{ p.f with names:=p.f.names.set k t },p.nm,p.a⟩):=by
 refine ⟨by rw [List.length_set]; exact h.1,hK,fun q hq=>?_⟩
 rcases List.mem_or_eq_of_mem_set hq with hq | rfl
 · exact h.2.2 q hq
 · have:=h.2.2 p (List.mem_of_getElem? hp)
   simpa using this
theorem SK.setK {N:Nat} {K:List KQ} (h:SK N K) {i k:Nat} {p:KQ} {t:Int} (hp:K[i]? = some p) (hK:KBk (K.set i ⟨{ p.f with kids:=p.f.kids.set k t },p.nm,p.a⟩)):SK N (K.set i ⟨{ p.f with kids:=p.f.kids.set k t },p.nm,p.a⟩):=by
 refine ⟨by rw [List.length_set]; exact h.1,hK,fun q hq=>?_⟩
 rcases List.mem_or_eq_of_mem_set hq with hq | rfl
 · exact h.2.2 q hq
 · have:=h.2.2 p (List.mem_of_getElem? hp)
   simpa using this
theorem Y9 {s0 s:St} {n:En} {R:List RA} {B:List (Nat×Box)} {id N:Nat} {K:List KQ} (H:Hp s0 s n R (E0 (id,K)++B)) (hS:SK N K) (hN:N < 2^34) :
    ∃ s',(lim Aq).call BK [.bl id 6 0 N (N*6,false)] s=some (.tup [],s')∧∃ K',Hp s0 s' n R (E0 (id,K')++B)∧SK N K':=by
 obtain ⟨r, s', hc,rfl,hP⟩:=fn_G (f:=BK) (args:=[.bl id 6 0 N (N*6,false)]) (s:=s) (Post:=fun r s'=>r=.tup []∧∃ K',Hp s0 s' n R (E0 (id,K')++B)∧SK N K') HM rfl rfl (by
  have hz0:wkZ BN.cin [.bl id 6 0 N (N*6,false)]=[.bl id 6 0 N (N*6,false)]:=rfl
  have hth:∀ q,G1 q (.bl id 6 0 N (N*6,false))=some (.bl id 6 0 N (N*6,false),q):=fun q=>rfl
  rw [hz0]
  simp only [BN,go_sem,AD,AA,AC,AB,KB_n,KB_x,Nat.reduceBEq,Nat.reduceAdd,Nat.reduceLT,Nat.reduceLeDiff,Nat.reduceEqDiff,reduceIte,Int.reduceEq,reduceCtorEq]
  refine Br (fun x e q=>∃ (i:Nat) (K':List KQ),i+x=N∧Hp s0 q s.en R (E0 (id,K')++B)∧SK N K'∧(bxs K').map (·.1)=(bxs K).map (·.1)∧e.get 0=.bl id 6 0 N (N*6,false)∧e.get 2=.i .i64 (i:Nat)) ?_ N _ _ ?_
  · rintro x e q ⟨i,K1,hix,H1,hS1,hid1,g0,g2⟩
    by_cases h:i < N
    · have h1 : ((i:Int) < (N:Int))=True:=eq_true (by omega)
      have hlt:(i < N)=True:=by simp [h]
      have hw1:=Aj (show i+1 < 2^63 by omega)
      simp only [go_sem,AD,AA,AC,AB,KB_n,KB_x,Nat.reduceBEq,Nat.reduceAdd,Nat.reduceLT,Nat.reduceLeDiff,Nat.reduceEqDiff,reduceIte,Int.reduceEq,reduceCtorEq,g0,g2,h1]
      obtain ⟨p1,hp1⟩:∃ p,K1[i]? = some p:=⟨_,List.getElem?_eq_getElem (by rw [hS1.1]; exact h)⟩
      refine Br (fun x e q=>∃ (k:Nat) (K2:List KQ) (p:KQ),k+x=p.f.names.length∧K2[i]? = some p∧Hp s0 q s.en R (E0 (id,K2)++B)∧SK N K2∧(bxs K2).map (·.1)=(bxs K).map (·.1)∧e.get 0=.bl id 6 0 N (N*6,false)∧e.get 2=.i .i64 (i:Nat)∧e.get 3=.i .i64 (k:Nat)) ?_ p1.f.names.length _ _ ?_
      · clear g0 g2
        rintro y e q ⟨k,K2,p,hky,hp,H2,hS2,hid2,g0,g2,g3⟩
        have la:=H2.ldR 0 (off:=i*6+2) (v:=p.nm) rfl (NY hp rfl)
        have hln:=(Zq hS2.2.1 hp q).1
        have lr:=(ld_nm hS2.2.1 hp).1
        have hsz:=hS2.2.2 p (List.mem_of_getElem? hp)
        by_cases hk:k < p.f.names.length
        · have e1:((k:Int) < (p.f.names.length:Int))=True:=eq_true (by omega)
          have e2:(k < p.f.names.length)=True:=by simp [hk]
          have hw2:=Aj (show k+1 < 2^63 by omega)
          obtain ⟨id2,q2,hnm,d2,H3,hK3⟩:=spoilN H2 hS2.2.1 hp hk spoilT
          rw [hnm] at la hln lr
          have d2':stA q 1 (.p id2 k) (.s [115,112,111,105,108,116])=some q2:=d2
          simp only [go_sem,AD,AA,AC,AB,KB_n,KB_x,Nat.reduceBEq,Nat.reduceAdd,Nat.reduceLT,Nat.reduceLeDiff,Nat.reduceEqDiff,reduceIte,Int.reduceEq,reduceCtorEq,g0,g2,g3,hth,AH,hlt,Nat.zero_add,Nat.mul_one,la,e1,e2,d2',hw2]
          exact ⟨y - 1,by omega,k+1,_,_,by simp; omega,KV hp _,H3,hS2.setN hp hK3,by rw [SI hp]; exact hid2,rfl⟩
        · have e1:((k:Int) < (p.f.names.length:Int))=False:=eq_false (by omega)
          simp only [go_sem,AD,AA,AC,AB,KB_n,KB_x,Nat.reduceBEq,Nat.reduceAdd,Nat.reduceLT,Nat.reduceLeDiff,Nat.reduceEqDiff,reduceIte,Int.reduceEq,reduceCtorEq,g0,g2,g3,hth,AH,hlt,Nat.zero_add,la,lr,hln,e1]
          refine Br (fun x e q=>∃ (k:Nat) (K2:List KQ) (p:KQ),k+x=p.f.kids.length∧K2[i]? = some p∧Hp s0 q s.en R (E0 (id,K2)++B)∧SK N K2∧(bxs K2).map (·.1)=(bxs K).map (·.1)∧e.get 0=.bl id 6 0 N (N*6,false)∧e.get 2=.i .i64 (i:Nat)∧e.get 4=.i .i64 (k:Nat)) ?_ p.f.kids.length _ _ ?_
          · clear g0 g2 g3 la lr hln hsz hk e1 H2 hS2 hid2 hp hky
            rintro z e q ⟨k,K2,p,hky,hp,H2,hS2,hid2,g0,g2,g4⟩
            have la:=H2.ldR 0 (off:=i*6+3) (v:=p.a) rfl (NY hp rfl)
            have hln:=(Zq hS2.2.1 hp q).2
            have lr:=(ld_nm hS2.2.1 hp).2
            have hsz:=hS2.2.2 p (List.mem_of_getElem? hp)
            by_cases hk:k < p.f.kids.length
            · have e1:((k:Int) < (p.f.kids.length:Int))=True:=eq_true (by omega)
              have e2:(k < p.f.kids.length)=True:=by simp [hk]
              have hw2:=Aj (show k+1 < 2^63 by omega)
              obtain ⟨id2,q2,hnm,d2,H3,hK3⟩:=spoilK H2 hS2.2.1 hp hk (-7)
              rw [hnm] at la hln lr
              simp only [go_sem,AD,AA,AC,AB,KB_n,KB_x,Nat.reduceBEq,Nat.reduceAdd,Nat.reduceLT,Nat.reduceLeDiff,Nat.reduceEqDiff,reduceIte,Int.reduceEq,reduceCtorEq,g0,g2,g4,hth,AH,hlt,Nat.zero_add,Nat.mul_one,la,e1,e2,d2,hw2]
              exact ⟨z - 1,by omega,k+1,_,_,by simp; omega,KV hp _,H3,hS2.setK hp hK3,by rw [SI hp]; exact hid2,rfl⟩
            · have e1:((k:Int) < (p.f.kids.length:Int))=False:=eq_false (by omega)
              obtain ⟨q2,d2,H3⟩:=stKB H2 hp (j:=4) (g:={ p.f with rest:=9 }) (v:=.i .i64 9) (by omega) ⟨rfl,rfl⟩ rfl
              simp only [go_sem,AD,AA,AC,AB,KB_n,KB_x,Nat.reduceBEq,Nat.reduceAdd,Nat.reduceLT,Nat.reduceLeDiff,Nat.reduceEqDiff,reduceIte,Int.reduceEq,reduceCtorEq,g0,g2,g4,hth,AH,hlt,Nat.zero_add,la,lr,hln,e1,d2,hw1]
              have hb:=MF hp (g:={ p.f with rest:=9 }) rfl rfl
              refine ⟨x - 1,by omega,i+1,K2.set i ⟨{ p.f with rest:=9 },p.nm,p.a⟩,by omega,?_,⟨by rw [List.length_set]; exact hS2.1,hS2.2.1.setF hp rfl rfl,fun r hr=>?_⟩,by rw [SI hp]; exact hid2,rfl⟩
              · show Hp s0 q2 s.en R (rowK id _::(bxs _++B))
                rw [hb]; exact H3
              · rcases List.mem_or_eq_of_mem_set hr with hr | rfl
                · exact hS2.2.2 r hr
                · exact hsz
          · simp only [go_sem,AD,AA,AC,AB,KB_n,KB_x,Nat.reduceBEq,Nat.reduceAdd,Nat.reduceLT,Nat.reduceLeDiff,Nat.reduceEqDiff,reduceIte,Int.reduceEq,reduceCtorEq,g0,g2]
            exact ⟨0,K2,p,by omega,hp,H2,hS2,hid2,rfl⟩
      · simp only [go_sem,AD,AA,AC,AB,KB_n,KB_x,Nat.reduceBEq,Nat.reduceAdd,Nat.reduceLT,Nat.reduceLeDiff,Nat.reduceEqDiff,reduceIte,Int.reduceEq,reduceCtorEq,g0,g2]
        exact ⟨0,K1,p1,by omega,hp1,H1,hS1,hid1,rfl⟩
    · have h1:((i:Int) < (N:Int))=False:=eq_false (by omega)
      simp only [go_sem,AD,AA,AC,AB,KB_n,KB_x,Nat.reduceBEq,Nat.reduceAdd,Nat.reduceLT,Nat.reduceLeDiff,Nat.reduceEqDiff,reduceIte,Int.reduceEq,reduceCtorEq,g0,g2,h1]
      refine ⟨_,_,rfl,rfl,K1,?_,hS1⟩
      refine H.leave (n1:=s.en) H1 _ (fun {j x} hj=>?_) (.inr fun {j r k} hr hk=>(H.rows hr).tok_lt hk)
      have e1:((E0 (id,K1)++B).map (·.1))[j]? = some x.1:=by rw [List.getElem?_map,hj]; rfl
      rw [Wr,hid1,← Wr,List.getElem?_map] at e1
      cases hq:(E0 (id,K)++B)[j]? with
      | none=>rw [hq] at e1; cases e1
      | some y =>
        rw [hq] at e1
        simp only [Option.map_some,Option.some.injEq] at e1
        rw [← e1]
        exact (H.box hq).2.2
  · simp only [go_sem,AD,AA,AC,AB,KB_n,KB_x,Nat.reduceBEq,Nat.reduceAdd,Nat.reduceLT,Nat.reduceLeDiff,Nat.reduceEqDiff,reduceIte,Int.reduceEq,reduceCtorEq]
    exact ⟨0,K,by omega,H.enter,hS,rfl,rfl⟩)
 exact ⟨s',hc,hP⟩
end Go.Proofs.YtgloinighjdhlaaGreat

namespace Go.Proofs.YtgloinighjdhlaaGreat
open Go.Proofs.YtgloinighjdhlaaGreat.Am
def posS:List ND→Nat→List Int
 | [],_=>[]
 | k::ks,n=>(n:Int)::posS ks (n+nodesN k)
def cU (x:ND) (n:Nat):FT:=⟨true,x.kind,x.names,posS x.kids (n+1),if x.kind=2 then 1 else 0,0⟩
mutual
def allF:ND→Nat→List FT
 | .mk k t ns ks,n=>⟨true,k,ns,posS ks (n+1),if k=2 then 1 else 0,0⟩::N9 ks (n+1)
def N9:List ND→Nat→List FT
 | [],_=>[]
 | k::ks,n=>allF k n++N9 ks (n+nodesN k)
end
theorem Sb (x:ND) (n:Nat):allF x n=cU x n::N9 x.kids (n+1):=by
 cases x with
 | mk k t ns ks=>rw [allF]; rfl
theorem Oh:∀ (ks:List ND),(∀ k∈ks,∀ n,(allF k n).length=nodesN k)→∀ n,(N9 ks n).length=(ks.map nodesN).sum
 | [],_,n=>by simp [N9]
 | k::ks,h,n=>by
   rw [N9,List.length_append,h k (by simp),Oh ks (fun x hx=>h x (by simp [hx])),List.map_cons,List.sum_cons]
theorem Tq:∀ (x:ND) (n:Nat),(allF x n).length=nodesN x:=by
 refine ND.ind fun x ih n=>?_
 rw [Sb,List.length_cons,Oh x.kids ih,FE]; omega
def Sits (l:List FT) (x:ND) (n:Nat):Prop:=∃ pre post,l=pre++(allF x n++post)∧pre.length=n
def ZS (l:List FT) (ks:List ND) (n:Nat):Prop:=∃ pre post,l=pre++(N9 ks n++post)∧pre.length=n
theorem Sits.fact {l:List FT} {x:ND} {n:Nat} (h:Sits l x n):l[n]? = some (cU x n)∧ZS l x.kids (n+1)∧n+nodesN x≤l.length:=by
 obtain ⟨pre,post,rfl,rfl⟩:=h
 refine ⟨?_,⟨pre++[cU x pre.length],post,?_,by simp⟩,?_⟩
 · rw [List.getElem?_append_right (Nat.le_refl _),Nat.sub_self,Sb]; rfl
 · rw [Sb]; simp
 · rw [List.length_append,List.length_append,Tq]; omega
theorem ZS.cons {l:List FT} {k:ND} {ks:List ND} {n:Nat} (h:ZS l (k::ks) n):Sits l k n∧ZS l ks (n+nodesN k):=by
 obtain ⟨pre,post,rfl,rfl⟩:=h
 refine ⟨⟨pre,N9 ks (pre.length+nodesN k)++post,?_,rfl⟩,⟨pre++allF k pre.length,post,?_,by rw [List.length_append,Tq]⟩⟩
 · rw [N9]; simp
 · rw [N9]; simp
theorem RN {x:ND} (h:FF x=true):x.kind=1∨x.kind=2∨x.kind=3:=by
 rw [MG] at h
 split at h
 · omega
 · split at h
   · omega
   · cases h

theorem Oi:∀ (b:ND) (p:List (List Nat)) (s:List Nat),EY b (p++[s])=(EY b p).bind fun y=>kidN y s
 | b,[],s=>by
   simp only [List.nil_append,EY,Option.bind_some]
   cases kidN b s<;>rfl
 | b,a::p,s=>by
   simp only [List.cons_append,EY]
   cases h:kidN b a with
   | none=>rfl
   | some k=>exact Oi k p s
theorem cV {l:List FT} (h:mayP l=true) {j:Nat} (hj:j < l.length) (b:ND):Je l b (j:Int)=EY b (climb l j):=by
 have hc:0≤(j:Int)∧(j:Int) < (l.length:Int):=⟨by omega,by omega⟩
 simp only [Je,Gk,h,if_true,hc,and_self,Int.toNat_natCast]
theorem RO {f:FT} (hl:f.names.length=f.kids.length) (y:List Nat):FN f f.names.length y=decide (y∈f.names):=by
 unfold FN
 cases h:f.names.findIdx? (·==y) with
 | none =>
   rw [List.findIdx?_eq_none_iff] at h
   simp only
   rw [eq_comm,decide_eq_false_iff_not]
   intro hm
   have:=h y hm
   simp at this
 | some i =>
   rw [List.findIdx?_eq_some_iff_getElem] at h
   obtain ⟨h1,h2,_⟩:=h
   have hm:y∈f.names:=by
    simp only [beq_iff_eq] at h2
    rw [← h2]; exact List.getElem_mem h1
   have hk:=List.getElem?_eq_getElem (show i < f.kids.length by omega)
   simp only [hk]
   rw [decide_eq_true hm,decide_eq_true_eq,List.take_of_length_le (by rw [GR]; omega)]
   exact (I7 f.kids).mem_iff.2 (List.getElem_mem _)
theorem kid_at {y:ND} (hy:FF y=true) (hk:y.kind=2) {i:Nat} {s:List Nat} (hs:y.names[i]? = some s):kidN y s=y.kids[i]? := by
 unfold kidN
 rw [if_pos hk]
 have:y.names.findIdx? (·==s)=some i:=by
  refine NR hs fun j hj z hz=>?_
  rintro rfl
  have:=(W8 hy).asc hj hz hs
  rw [NV] at this; cases this
 rw [this]
theorem Ue (l:List FT) (b:ND):Bq l b=true↔(mayP l=true∧mayN b=true∧∀ j,j < l.length→KX l b j=false):=by
 unfold Bq F1
 cases hm:mayP l with
 | false=>simp
 | true =>
   cases hb:mayN b with
   | false=>simp
   | true =>
     simp only [Bool.and_self,if_true,true_and]
     cases hf:(List.range l.length).find? (KX l b) with
     | some i =>
       simp only [Bool.and_eq_true,decide_eq_true_eq]
       rw [List.find?_range_eq_some] at hf
       constructor
       · intro h; omega
       · intro h
         have:=h i (by simpa using hf.2.1)
         rw [hf.1] at this; cases this
     | none =>
       simp only [Bool.and_eq_true,decide_eq_true_eq]
       rw [List.find?_eq_none] at hf
       constructor
       · intro _ j hj
         have:=hf j (by simpa using hj)
         simpa using this
       · intro _; simp

/-! ### Facts that say less -/
theorem Lj {l l':List FT} (hk:l.map FT.kids=l'.map FT.kids) (hn:l.map FT.names=l'.map FT.names):∀ (d n:Nat),IB l' d n=IB l d n
 | 0,_=>rfl
 | d + 1,n=>by
   have hc:∀ j,cntK l' j=cntK l j:=fun j=>by unfold cntK flatK; rw [hk]
   have ha:∀ j,F0 l' j=F0 l j:=fun j=>by
    unfold F0
    rw [hc]
    have h:∀ L:List FT,(L.findIdx? fun f=>f.kids.contains j)=(L.map FT.kids).findIdx? fun k=>k.contains j:=fun L=>by rw [List.findIdx?_map]; rfl
    rw [h l',h l,hk]
   rw [IB,IB,ha]
   split
   · rfl
   · cases F0 l (n:Int) with
     | none=>rfl
     | some u =>
       have h1:(l.map FT.kids)[u]? = (l'.map FT.kids)[u]? := by rw [hk]
       have h2:(l.map FT.names)[u]? = (l'.map FT.names)[u]? := by rw [hn]
       rw [List.getElem?_map,List.getElem?_map] at h1 h2
       simp only
       cases hl:l[u]? with
       | none =>
         rw [hl] at h1
         cases hl':l'[u]? with
         | none=>rfl
         | some f'=>rw [hl'] at h1; cases h1
       | some f =>
         rw [hl] at h1 h2
         cases hl':l'[u]? with
         | none=>rw [hl'] at h1; cases h1
         | some f' =>
           rw [hl'] at h1 h2
           have e1:f.kids=f'.kids:=Option.some.inj h1
           have e2:f.names=f'.names:=Option.some.inj h2
           simp only
           rw [Lj hk hn d u]
           unfold XK
           rw [e1,e2]
theorem Ni {l l':List FT} (hk:l.map FT.kids=l'.map FT.kids) (hn:l.map FT.names=l'.map FT.names) (n:Nat):climb l' n=climb l n:=Lj hk hn _ _
theorem Sc {α β:Type} (g:α→β) {l:List α} {n:Nat} {f f':α} (h:l[n]? = some f) (e:g f'=g f):l.map g=(l.set n f').map g:=by
 rw [List.map_set,e]
 rw [List.getElem?_eq_some_iff] at h
 obtain ⟨hn,rfl⟩:=h
 rw [← List.getElem_map g (h:=by simpa using hn),List.set_getElem_self]

def Na (f:FT) (x:ND):Bool:=f.known&&(decide (x.kind≠f.kind)||(decide (x.kind=2)&&!CH f x.names))
def nodeA (l:List FT) (b:ND) (n:Nat):ND:=GZ (EY b (climb l n))
theorem Nb {l:List FT} (h:mayP l=true) {n:Nat} {f:FT} (hf:l[n]? = some f) (b:ND):KX l b n=Na f (nodeA l b n):=by
 unfold KX Na nodeA
 rw [hf,cV h (List.getElem?_eq_some_iff.1 hf).1]
def Oth (l:List FT) (b:ND) (n:Nat):Prop:=mayN b=true∧∀ j,j < l.length→j≠n→KX l b j=false
theorem Jf {l:List FT} (h:mayP l=true) {n:Nat} {f:FT} (hf:l[n]? = some f) (b:ND):Bq l b=true↔(Oth l b n∧Na f (nodeA l b n)=false):=by
 rw [Ue,← Nb h hf]
 have hn:=(List.getElem?_eq_some_iff.1 hf).1
 constructor
 · rintro ⟨_,h1,h2⟩
   exact ⟨⟨h1,fun j hj _=>h2 j hj⟩,h2 n hn⟩
 · rintro ⟨⟨h1,h2⟩,h3⟩
   refine ⟨h,h1,fun j hj=>?_⟩
   by_cases hjn:j=n
   · subst hjn; exact h3
   · exact h2 j hj hjn
theorem Nc {l:List FT} (hm:mayP l=true) {n:Nat} {f f':FT} (hf:l[n]? = some f) (hk:f'.kids=f.kids) (h1:f'.one=true) (hd:f'.isDir=true∨1≤n):mayP (l.set n f')=true:=by
 have mk:=Sc FT.kids hf hk
 have hnl:n < l.length:=by rw [List.getElem?_eq_some_iff] at hf; exact hf.1
 have hfl:flatK (l.set n f')=flatK l:=by unfold flatK; rw [mk]
 have hone:M5 (l.set n f')=M5 l:=by
  unfold M5 cntK
  rw [hfl,List.length_set]
 have hget:∀ (a:Nat) (g:FT),(l.set n f')[a]? = some g→(a=n∧g=f')∨l[a]? = some g:=fun a g hg=>by
  rw [List.getElem?_set] at hg
  split at hg
  · rename_i hna
    subst hna
    exact .inl ⟨rfl,(Option.some.inj hg).symm⟩
  · exact .inr hg
 have hbe:Hz (l.set n f').length 0 (l.set n f')=true:=by
  rw [Eu]
  intro a g hg k hkk
  rw [List.length_set]
  have hbl:Hz l.length 0 l=true:=by
   cases l with
   | nil=>rfl
   | cons x t=>simp only [mayP,Bool.and_eq_true] at hm; exact hm.2.2.1
  rw [Eu] at hbl
  rcases hget a g hg with ⟨rfl,rfl⟩ | hg
  · exact hbl _ f hf k (by rw [← hk]; exact hkk)
  · exact hbl a g hg k hkk
 have hall1:∀ g∈l.set n f',g.one=true:=fun g hg=>by
  obtain ⟨a,ha,rfl⟩:=List.mem_iff_getElem.1 hg
  rcases hget a _ (List.getElem?_eq_getElem ha) with ⟨_,e⟩ | hg
  · rw [e]; exact h1
  · exact (mayD hm).one _ (List.mem_of_getElem? hg)
 cases l with
 | nil=>simp at hnl
 | cons x t =>
   cases n with
   | zero =>
     rw [List.set_cons_zero] at hbe hone hall1 ⊢
     have hxd:f'.isDir=true:=by rcases hd with hd | hd; exact hd; omega
     simp only [mayP,Bool.and_eq_true,List.all_eq_true] at hm ⊢
     exact ⟨hxd,hall1,hbe,by rw [hone]; exact hm.2.2.2⟩
   | succ n =>
     rw [List.set_cons_succ] at hbe hone hall1 ⊢
     simp only [mayP,Bool.and_eq_true,List.all_eq_true] at hm ⊢
     exact ⟨hm.1,hall1,hbe,by rw [hone]; exact hm.2.2.2⟩
theorem Nd {l:List FT} (h:mayP l=true) {n:Nat} {f f':FT} (hf:l[n]? = some f) (hn:f'.names=f.names) (hk:f'.kids=f.kids) (hm':mayP (l.set n f')=true) (b:ND) :
    Bq (l.set n f') b=true↔(Oth l b n∧Na f' (nodeA l b n)=false):=by
 have mk:=Sc FT.kids hf hk
 have mn:=Sc FT.names hf hn
 have hnl:=(List.getElem?_eq_some_iff.1 hf).1
 have hf':(l.set n f')[n]? = some f':=by rw [List.getElem?_set,if_pos rfl,if_pos hnl]
 rw [Jf hm' hf' b]
 have hA:nodeA (l.set n f') b n=nodeA l b n:=by unfold nodeA; rw [Ni mk mn]
 rw [hA]
 have hO:Oth (l.set n f') b n↔Oth l b n:=by
  unfold Oth
  rw [List.length_set]
  refine and_congr_right fun _=>forall_congr' fun j=>?_
  refine forall_congr' fun hj=>forall_congr' fun hjn=>?_
  obtain ⟨g,hg⟩:∃ g,l[j]? = some g:=⟨_,List.getElem?_eq_getElem hj⟩
  have hg':(l.set n f')[j]? = some g:=by rw [List.getElem?_set,if_neg (fun h=>hjn h.symm)]; exact hg
  rw [Nb h hg,Nb hm' hg']
  unfold nodeA
  rw [Ni mk mn]
 rw [hO]
theorem Nf:∀ {b:ND} {p:List (List Nat)} {x:ND},FF b=true→EY b p=some x→FF x=true
 | b,[],x,h,hx=>by simp only [EY,Option.some.injEq] at hx; subst hx; exact h
 | b,s::p,x,h,hx=>by
   rw [EY] at hx
   cases hk:kidN b s with
   | none=>rw [hk] at hx; cases hx
   | some k =>
     rw [hk] at hx
     refine Nf (b:=k) ?_ hx
     unfold kidN at hk
     split at hk
     · split at hk
       · exact (W8 h).kid hk
       · cases hk
     · cases hk
theorem XT {l:List FT} {b:ND} (hb:mayN b=true) (n:Nat):(nodeA l b n).kind≤3:=by
 unfold nodeA
 cases h:EY b (climb l n) with
 | none=>exact Nat.zero_le _
 | some x =>
   have:=RN (Nf (NP hb) h)
   show x.kind≤3
   omega
/-! ### Know -/
def knB (l:List FT) (b:ND) (n:Nat) (k:Nat):Bool:=decide ((D0 l n k).2=0)&&Bq (D0 l n k).1 b
theorem Tk {l:List FT} (h:mayP l=true) {n:Nat} {f:FT} (hf:l[n]? = some f) {k:Nat} (hk:k≤3):((D0 l n k).2=0)↔f.known=false:=by
 have hn:=(List.getElem?_eq_some_iff.1 hf).1
 have hz:Cf l n=0:=by unfold Cf; rw [h,if_pos rfl,if_pos ⟨by omega,by omega⟩]
 unfold D0
 rw [if_pos hz,Int.toNat_natCast,hf]
 show (if f.known=true then (([],6):List FT×Int) else if 3 < k then ([],1) else (l.set n ⟨true,k,[],[],0,0⟩,0)).2=0↔_
 by_cases hkn:f.known=true
 · rw [if_pos hkn,hkn]; simp
 · rw [if_neg hkn,if_neg (by omega)]; simp [hkn]
theorem Tl {k:Nat} (hk:k≤3):(⟨true,k,[],[],0,0⟩:FT).one=true:=by
 rcases (show k=0∨k=1∨k=2∨k=3 by omega) with rfl | rfl | rfl | rfl<;>decide
theorem SZ {l:List FT} (h:mayP l=true) {n:Nat} {f:FT} (hf:l[n]? = some f) (b:ND) {k:Nat} (hk:k≤3):knB l b n k=true↔(f.known=false∧(Oth l b n∧(nodeA l b n).kind=k)):=by
 unfold knB
 rw [Bool.and_eq_true,decide_eq_true_eq,Tk h hf hk]
 refine and_congr_right fun hkn=>?_
 have hn:=(List.getElem?_eq_some_iff.1 hf).1
 have hz:Cf l n=0:=by unfold Cf; rw [h,if_pos rfl,if_pos ⟨by omega,by omega⟩]
 have hone:=(mayD h).one f (List.mem_of_getElem? hf)
 obtain ⟨e1,e2,_,_⟩:=NL hone hkn
 have hP:(D0 l n k).1=l.set n ⟨true,k,[],[],0,0⟩:=by
  unfold D0
  rw [if_pos hz,Int.toNat_natCast,hf]
  simp only [hkn]
  rw [if_neg (by simp),if_neg (by omega)]
 have hn1:1≤n:=by
  cases n with
  | succ n=>omega
  | zero =>
    cases l with
    | nil=>simp at hf
    | cons x t =>
      simp only [List.getElem?_cons_zero,Option.some.injEq] at hf
      subst hf
      simp only [mayP,Bool.and_eq_true] at h
      have:=h.1
      unfold FT.isDir at this
      rw [hkn] at this; cases this
 have hm':=Nc h hf (f':=⟨true,k,[],[],0,0⟩) e2.symm (Tl hk) (.inr hn1)
 rw [hP,Nd h hf (f':=⟨true,k,[],[],0,0⟩) e1.symm e2.symm hm' b]
 refine and_congr_right fun _=>?_
 have hE:∀ L,CH (⟨true,k,[],[],0,0⟩:FT) L=true:=fun L=>by unfold CH; rw [if_neg (by simp),if_neg (by simp)]
 unfold Na
 simp only [hE,Bool.not_true,Bool.and_false,Bool.or_false,Bool.true_and,decide_eq_false_iff_not]
 exact ⟨fun h=>Classical.byContradiction h,fun h h2=>h2 h⟩
def knC (l:List FT) (b:ND) (n:Nat) (j:Nat):Nat:=(List.range j).countP (knB l b n)
theorem I9 (l:List FT) (b:ND) (n:Nat) (j:Nat):knC l b n (j+1)=knC l b n j+(if knB l b n j then 1 else 0):=by
 unfold knC
 rw [List.range_succ,List.countP_append,List.countP_cons,List.countP_nil]
 simp
theorem MI {l:List FT} (h:mayP l=true) {n:Nat} {f:FT} (hf:l[n]? = some f) (b:ND) :
    (0 < knC l b n 4→Bq l b=true)∧(Bq l b=true→f.known=false→knC l b n 4=1):=by
 have hK:=fun k (hk:k≤3)=>SZ h hf b hk
 have hall:knC l b n 4=(if knB l b n 0 then 1 else 0)+(if knB l b n 1 then 1 else 0)+(if knB l b n 2 then 1 else 0)+(if knB l b n 3 then 1 else 0):=by
  rw [show (4:Nat)=3+1 from rfl,I9,show (3:Nat)=2+1 from rfl,I9,show (2:Nat)=1+1 from rfl,I9,show (1:Nat)=0+1 from rfl,I9]
  simp [knC]
 have hu:f.known=false→(Bq l b=true↔Oth l b n):=fun hkn=>by
  rw [Jf h hf b]
  have:Na f (nodeA l b n)=false:=by unfold Na; rw [hkn]; rfl
  exact ⟨fun h=>h.1,fun h=>⟨h,this⟩⟩
 constructor
 · intro hpos
   have hex:∃ k,k≤3∧knB l b n k=true:=by
    refine Classical.byContradiction fun hno=>?_
    have hz:∀ k,k≤3→knB l b n k=false:=fun k hk=>by
     cases hc:knB l b n k with
     | false=>rfl
     | true=>exact absurd ⟨k,hk,hc⟩ hno
    rw [hall,hz 0 (by omega),hz 1 (by omega),hz 2 (by omega),hz 3 (by omega)] at hpos
    simp at hpos
   obtain ⟨k,hk,hb⟩:=hex
   obtain ⟨h1,h2,_⟩:=(hK k hk).1 hb
   exact (hu h1).2 h2
 · intro hh hkn
   have ho:=(hu hkn).1 hh
   have hk3:=XT (l:=l) ho.1 n
   have hv:∀ k,k≤3→knB l b n k=decide ((nodeA l b n).kind=k):=fun k hk=>by
    rw [Bool.eq_iff_iff,hK k hk,decide_eq_true_eq]
    exact ⟨fun h=>h.2.2,fun h=>⟨hkn,ho,h⟩⟩
   rw [hall,hv 0 (by omega),hv 1 (by omega),hv 2 (by omega),hv 3 (by omega)]
   generalize (nodeA l b n).kind=k at hk3
   rcases (show k=0∨k=1∨k=2∨k=3 by omega) with rfl | rfl | rfl | rfl<;>rfl

theorem Pu {L:List (List Nat)} (ha:Asc L) {i:Nat} {y:List Nat} (h:L[i]? = some y):L.findIdx? (·==y)=some i :=
 NR h fun j hj z hz e=>by
  subst e
  have:=ha hj hz h
  rw [NV] at this; cases this
theorem Ng {f:FT} (h1:f.one=true) (m:Nat) (y:List Nat):FN f m y=true↔∃ (i:Nat) (k:Int),f.names[i]? = some y∧f.kids[i]? = some k∧k∈(Ds f.kids).take m:=by
 have ha:Asc f.names:=Po h1
 unfold FN
 constructor
 · intro h
   split at h
   · rename_i i hi
     split at h
     · rename_i k hk
       rw [List.findIdx?_eq_some_iff_getElem] at hi
       obtain ⟨h2,h3,_⟩:=hi
       simp only [beq_iff_eq] at h3
       exact ⟨i,k,by rw [List.getElem?_eq_getElem h2,h3],hk,of_decide_eq_true h⟩
     · cases h
   · cases h
 · rintro ⟨i,k,h2,h3,h4⟩
   rw [Pu ha h2]
   simp only [h3]
   exact decide_eq_true h4
theorem cS {f:FT} (h1:f.one=true) (hd:f.isDir=true):ascN none f.names=true∧f.restB=true:=by
 unfold FT.one at h1
 rw [hd,if_pos rfl] at h1
 simp only [Bool.and_eq_true] at h1
 exact h1.2
theorem Nh {f g:FT} (h1:f.one=true) (hd:f.isDir=true) (e1:g.known=f.known) (e2:g.kind=f.kind) (e3:g.names=f.names) (e4:g.kids=f.kids) (hr:g.restB=true):g.one=true:=by
 have hg:g.isDir=true:=by unfold FT.isDir at hd ⊢; rw [e1,e2]; exact hd
 have hb:g.bad=f.bad:=by unfold FT.bad; rw [e1,e2,e3,e4]
 have h2:=cS h1 hd
 unfold FT.one at h1 ⊢
 rw [hb,hg,if_pos rfl,e3,h2.1,hr]
 simp only [Bool.and_eq_true] at h1
 simp [h1.1]
theorem Pv {f:FT} (h1:f.known=true) (h2:f.kind=2) (x:ND):Na f x=false↔(x.kind=2∧CH f x.names=true):=by
 unfold Na
 rw [h1,h2]
 by_cases hk:x.kind=2
 · simp [hk]
 · simp [hk]
theorem XU {f:FT} (hl:f.names.length=f.kids.length) (h1:f.rest=1) (L:List (List Nat)):CH f L=true↔∀ y∈L,y∈f.names:=by
 unfold CH
 rw [if_pos h1]
 simp only [RO hl]
 simp
theorem ZQ {f:FT} (hl:f.names.length=f.kids.length) (h2:f.rest=2) (hb:f.beside=(f.names.length:Int)) (L:List (List Nat)):CH f L=true↔∃ y∈L,y∉f.names:=by
 unfold CH
 rw [if_neg (by omega),if_pos h2,hb,Int.toNat_natCast]
 simp only [RO hl]
 simp
theorem Sa {f:FT} (h2:f.rest=2) (L:List (List Nat)):CH f L=true↔∃ y∈L,FN f f.beside.toNat y=false:=by
 unfold CH
 rw [if_neg (by omega),if_pos h2]
 simp
theorem Tm {f:FT} (h1:f.rest≠1) (h2:f.rest≠2) (L:List (List Nat)):CH f L=true:=by
 unfold CH
 rw [if_neg h1,if_neg h2]
theorem Tn {l:List FT} (h:mayP l=true) {n:Nat} {f:FT} (hf:l[n]? = some f) {i:Nat} {k:Int} {s:List Nat} (hk:f.kids[i]? = some k) (hs:f.names[i]? = some s) (b:ND) :
    nodeA l b k.toNat=GZ ((EY b (climb l n)).bind fun y=>kidN y s):=by
 unfold nodeA
 rw [NW h hf hk hs,Oi]
theorem Pw {l:List FT} (h:mayP l=true) {n:Nat} {f:FT} (hf:l[n]? = some f) {k:Int} (hk:k∈f.kids):∃ (j:Nat) (g:FT) (i:Nat) (s:List Nat),k=(j:Int)∧n < j∧l[j]? = some g∧f.kids[i]? = some k∧f.names[i]? = some s:=by
 have h1:=(mayD h).kid n f hf k hk
 obtain ⟨j,rfl⟩:∃ j:Nat,k=(j:Int):=⟨k.toNat,by omega⟩
 have hj:j < l.length:=by omega
 obtain ⟨i,hi,he⟩:=List.mem_iff_getElem.1 hk
 have hl:=Fi ((mayD h).one f (List.mem_of_getElem? hf))
 exact ⟨j,l[j],i,f.names[i],rfl,by omega,List.getElem?_eq_getElem hj,by rw [List.getElem?_eq_getElem hi,he],List.getElem?_eq_getElem (by omega)⟩
theorem XV {L:List Int} (hL:L.Nodup) {m:Nat} {k:Int} (h1:k∈(Ds L).take m) (h2:k∈(Ds L).drop m):False:=by
 have hs:=ZG hL
 rw [← List.take_append_drop m (Ds L),List.pairwise_append] at hs
 have:=hs.2.2 k h1 k h2
 omega
def whB (l:List FT) (b:ND) (n:Nat):Bool:=decide ((DV l n).2=0)&&Bq (DV l n).1 b
def moB (l:List FT) (b:ND) (n:Nat):Bool:=decide ((FA l n).2=0)&&Bq (FA l n).1 b
def Uc (l:List FT) (f:FT):Bool:=f.kids.all fun k=>match l[k.toNat]? with
 | some g=>g.known
 | none=>false
section
variable {l:List FT} {n:Nat} {f:FT}
theorem Zx (h:mayP l=true) (hf:l[n]? = some f):dirE l n=if f.isDir then 0 else 1:=by
 have hn:=(List.getElem?_eq_some_iff.1 hf).1
 have hz:Cf l n=0:=by unfold Cf; rw [h,if_pos rfl,if_pos ⟨by omega,by omega⟩]
 exact NM hz (by rw [Int.toNat_natCast]; exact hf)
theorem cT (h:mayP l=true) (hf:l[n]? = some f):FA l n=if f.isDir=true then (if f.rest=1 then ([],6) else (l.set n { f with rest:=2,beside:=(f.names.length:Int) },0)) else ([],1):=by
 have hd:=Zx h hf
 unfold FA
 rw [hd]
 cases hdd:f.isDir with
 | true=>simp only [if_true,Int.toNat_natCast,hf]
 | false=>simp
theorem To (h:mayP l=true) (hf:l[n]? = some f):DV l n=if f.isDir=true then (if f.rest=1 then ([],6) else if f.rest=2∧HL l f=false then ([],67) else (l.set n { f with rest:=1,beside:=0 },0)) else ([],1):=by
 have hd:=Zx h hf
 unfold DV
 rw [hd]
 cases hdd:f.isDir with
 | true=>simp only [if_true,Int.toNat_natCast,hf]
 | false=>simp
theorem ZR (h : mayP l=true) (hf:l[n]? = some f) (he:(FA l n).2=0) (b:ND) :
    mayP (FA l n).1=true∧(¬ (whB l b n=true∧moB l b n=true))∧(whB l b n=true∨moB l b n=true→Bq l b=true)∧(Bq l b=true→Uc l f=true→whB l b n=true∨moB l b n=true):=by
 have hone:=(mayD h).one f (List.mem_of_getElem? hf)
 have hlen:=Fi hone
 have hM:=cT h hf
 have hW:=To h hf
 cases hd:f.isDir with
 | false=>rw [hM,hd] at he; simp at he
 | true =>
 rw [hd,if_pos rfl] at hM hW
 by_cases hr1:f.rest=1
 · rw [hM,if_pos hr1] at he; simp at he
 rw [if_neg hr1] at hM hW
 have hkn:f.known=true∧f.kind=2:=by
  unfold FT.isDir at hd
  simpa using hd
 have h1M:({ f with rest:=2,beside:=(f.names.length:Int) }:FT).one=true:=Nh hone hd rfl rfl rfl rfl (by unfold FT.restB; simp)
 have h1W:({ f with rest:=1,beside:=0 }:FT).one=true:=Nh hone hd rfl rfl rfl rfl (by unfold FT.restB; simp)
 have mM:=Nc h hf (f':={ f with rest:=2,beside:=(f.names.length:Int) }) rfl h1M (.inl hd)
 have mW:=Nc h hf (f':={ f with rest:=1,beside:=0 }) rfl h1W (.inl hd)
 have sM:=Nd h hf (f':={ f with rest:=2,beside:=(f.names.length:Int) }) rfl rfl mM b
 have sW:=Nd h hf (f':={ f with rest:=1,beside:=0 }) rfl rfl mW b
 rw [Pv (f:={ f with rest:=2,beside:=(f.names.length:Int) }) hkn.1 hkn.2,ZQ (f:={ f with rest:=2,beside:=(f.names.length:Int) }) hlen rfl rfl] at sM
 rw [Pv (f:={ f with rest:=1,beside:=0 }) hkn.1 hkn.2,XU (f:={ f with rest:=1,beside:=0 }) hlen rfl] at sW
 have sL:=Jf h hf b
 rw [Pv hkn.1 hkn.2] at sL
 have eM:moB l b n=true↔(Oth l b n∧(nodeA l b n).kind=2∧∃ y∈(nodeA l b n).names,y∉f.names):=by
  unfold moB
  rw [hM]
  simpa using sM
 have eW:whB l b n=true↔((f.rest=2→HL l f=true)∧Oth l b n∧(nodeA l b n).kind=2∧∀ y∈(nodeA l b n).names,y∈f.names):=by
  unfold whB
  rw [hW]
  by_cases ht:f.rest=2∧HL l f=false
  · rw [if_pos ht]
    simp only [Bool.and_eq_true,decide_eq_true_eq]
    constructor
    · rintro ⟨h1,_⟩; simp at h1
    · rintro ⟨h1,_⟩
      rw [h1 ht.1] at ht; simp at ht
  · rw [if_neg ht]
    simp only [Bool.and_eq_true,decide_eq_true_eq,true_and]
    rw [sW]
    refine ⟨fun h=>⟨fun h2=>?_,h⟩,fun h=>h.2⟩
    cases h3:HL l f with
    | true=>rfl
    | false=>exact absurd ⟨h2,h3⟩ ht
 have hnd:=Of h hf
 have ha:Asc f.names:=Po hone
 refine ⟨by rw [hM]; exact mM,fun ⟨w,m⟩=>?_,fun hwm=>?_,fun hh hall=>?_⟩
 · obtain ⟨_,_,y,hy,hny⟩:=eM.1 m
   exact hny ((eW.1 w).2.2.2 y hy)
 · rw [sL]
   rcases hwm with w | m
   · obtain ⟨ht,ho,hk,hall⟩:=eW.1 w
     refine ⟨ho,hk,?_⟩
     by_cases h2:f.rest=2
     · rw [Sa h2]
       have ht:=ht h2
       rw [Qu,List.any_eq_true] at ht
       obtain ⟨k,hkb,hkt⟩:=ht
       have hkk:k∈f.kids:=(I7 f.kids).subset (List.mem_of_mem_drop hkb)
       obtain ⟨j,g,i,s,rfl,hnj,hg,hki,hsi⟩:=Pw h hf hkk
       unfold Jd at hkt
       rw [Int.toNat_natCast,hg] at hkt
       simp only [Bool.and_eq_true,decide_eq_true_eq] at hkt
       have hfj:=ho.2 j (List.getElem?_eq_some_iff.1 hg).1 (by omega)
       rw [Nb h hg] at hfj
       unfold Na at hfj
       rw [hkt.1,Bool.true_and,Bool.or_eq_false_iff,decide_eq_false_iff_not] at hfj
       have hkj:(nodeA l b j).kind=g.kind:=Classical.byContradiction fun hh=>hfj.1 hh
       have hnode:=Tn h hf hki hsi b
       rw [Int.toNat_natCast] at hnode
       have hs:s∈(nodeA l b n).names:=by
        unfold nodeA
        cases hfp:EY b (climb l n) with
        | none =>
          rw [hfp] at hnode
          rw [hnode] at hkj
          exact absurd hkj.symm hkt.2
        | some y =>
          rw [hfp] at hnode
          rw [hnode] at hkj
          simp only [Option.bind_some] at hkj
          cases hkd:kidN y s with
          | none=>rw [hkd] at hkj; exact absurd hkj.symm hkt.2
          | some c =>
            unfold kidN at hkd
            split at hkd
            · split at hkd
              · rename_i p hp
                rw [List.findIdx?_eq_some_iff_getElem] at hp
                obtain ⟨h5,h6,_⟩:=hp
                simp only [beq_iff_eq] at h6
                show s∈y.names
                rw [← h6]; exact List.getElem_mem h5
              · cases hkd
            · cases hkd
       refine ⟨s,hs,?_⟩
       rw [Bool.eq_false_iff]
       intro hask
       obtain ⟨i',k',h5,h6,h7⟩:=(Ng hone _ _).1 hask
       have:i'=i:=by
        have e1:=Pu ha h5
        have e2:=Pu ha hsi
        rw [e1] at e2; exact Option.some.inj e2
       subst this
       rw [hki] at h6; cases h6
       exact XV hnd h7 hkb
     · exact Tm hr1 h2 _
   · obtain ⟨ho,hk,y,hy,hny⟩:=eM.1 m
     refine ⟨ho,hk,?_⟩
     by_cases h2:f.rest=2
     · rw [Sa h2]
       refine ⟨y,hy,?_⟩
       rw [Bool.eq_false_iff]
       intro hask
       obtain ⟨i',k',h5,_⟩:=(Ng hone _ _).1 hask
       exact hny (List.mem_of_getElem? h5)
     · exact Tm hr1 h2 _
 · obtain ⟨ho,hk,hE⟩:=sL.1 hh
   by_cases hex:∃ y∈(nodeA l b n).names,y∉f.names
   · exact .inr (eM.2 ⟨ho,hk,hex⟩)
   · have hall2:∀ y∈(nodeA l b n).names,y∈f.names:=fun y hy=>Classical.byContradiction fun hny=>hex ⟨y,hy,hny⟩
     refine .inl (eW.2 ⟨fun h2=>?_,ho,hk,hall2⟩)
     rw [Sa h2] at hE
     obtain ⟨y,hy,hask⟩:=hE
     obtain ⟨i,hi,hiy⟩:=List.mem_iff_getElem.1 (hall2 y hy)
     have hsi:f.names[i]? = some y:=by rw [List.getElem?_eq_getElem hi,hiy]
     have hki:=List.getElem?_eq_getElem (show i < f.kids.length by omega)
     have hkm:=List.getElem_mem (show i < f.kids.length by omega)
     generalize f.kids[i]'(by omega)=k at hki hkm
     have hkb:k∈besP f:=by
      have h5:k∈Ds f.kids:=(I7 f.kids).symm.subset hkm
      rw [← List.take_append_drop f.beside.toNat (Ds f.kids),List.mem_append] at h5
      rcases h5 with h5 | h5
      · have:=(Ng hone f.beside.toNat y).2 ⟨i,k,hsi,hki,h5⟩
        rw [hask] at this; cases this
      · exact h5
     rw [Qu,List.any_eq_true]
     refine ⟨k,hkb,?_⟩
     obtain ⟨j,g,i',s',rfl,hnj,hg,_,_⟩:=Pw h hf hkm
     have hgk:g.known=true:=by
      unfold Uc at hall
      rw [List.all_eq_true] at hall
      have:=hall _ hkm
      rw [Int.toNat_natCast,hg] at this
      exact this
     unfold Jd
     rw [Int.toNat_natCast,hg]
     simp only [hgk,Bool.true_and,decide_eq_true_eq]
     have hfj:=ho.2 j (List.getElem?_eq_some_iff.1 hg).1 (by omega)
     rw [Nb h hg] at hfj
     unfold Na at hfj
     rw [hgk,Bool.true_and,Bool.or_eq_false_iff,decide_eq_false_iff_not] at hfj
     have hkj:(nodeA l b j).kind=g.kind:=Classical.byContradiction fun hh=>hfj.1 hh
     have hnode:=Tn h hf hki hsi b
     rw [Int.toNat_natCast] at hnode
     rw [← hkj,hnode]
     unfold nodeA at hy hk
     cases hfp:EY b (climb l n) with
     | none=>rw [hfp] at hk; cases hk
     | some x =>
       rw [hfp] at hy hk
       have hwx:=Nf (NP ho.1) hfp
       obtain ⟨p,hp,hpy⟩:=List.mem_iff_getElem.1 hy
       have hyp:x.names[p]? = some y:=by
        show (GZ (some x)).names[p]? = some y
        rw [List.getElem?_eq_getElem hp,hpy]
       have hkp:=kid_at hwx hk hyp
       have hlen2:=(W8 hwx).len
       have hpl:p < x.kids.length:=by rw [← hlen2]; exact hp
       rw [List.getElem?_eq_getElem hpl] at hkp
       show (GZ (kidN x y)).kind≠0
       rw [hkp]
       have:=RN ((W8 hwx).kid (List.getElem?_eq_getElem hpl))
       show (x.kids[p]).kind≠0
       omega
end
end Go.Proofs.YtgloinighjdhlaaGreat
