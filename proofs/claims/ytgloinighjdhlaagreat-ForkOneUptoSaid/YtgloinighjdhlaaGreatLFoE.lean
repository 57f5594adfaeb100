/-
  ForkOne, the plain law.
-/
import Derived.Test.YtgloinighjdhlaaGreatLStQ
import Derived.Test.YtgloinighjdhlaaGreatLink
import Derived.Test.YtgloinighjdhlaaGreatProg
set_option linter.all false
set_option linter.unusedVariables false
set_option linter.unusedSimpArgs false
set_option linter.unusedSectionVars false
set_option maxRecDepth 100000
set_option maxHeartbeats 4000000
namespace Go.Proofs.YtgloinighjdhlaaGreat
open Go.Proofs.YtgloinighjdhlaaGreat.Am
theorem Q9:∀ {b:ND} {p:List (List Nat)} {x:ND},DL b=false→EY b p=some x→DL x=false
 | b,[],x,h,hx=>by simp only [EY,Option.some.injEq] at hx; subst hx; exact h
 | b,s::p,x,h,hx=>by
   rw [EY] at hx
   cases hk:kidN b s with
   | none=>rw [hk] at hx; cases hx
   | some k =>
     rw [hk] at hx
     refine Q9 (b:=k) ?_ hx
     unfold kidN at hk
     split at hk
     · split at hk
       · rw [LH,Bool.or_eq_false_iff,List.any_eq_false] at h
         have:=h.2 k (List.mem_of_getElem? hk)
         simpa using this
       · cases hk
     · cases hk
theorem Wx {l:List FT} {b:ND} (hb:DL b=false) (n:Nat):(nodeA l b n).kind≠3:=by
 unfold nodeA
 cases h:EY b (climb l n) with
 | none=>intro hh; cases hh
 | some x =>
   have:=Q9 hb h
   rw [LH,Bool.or_eq_false_iff,decide_eq_false_iff_not] at this
   exact this.1
theorem Ta (l:List FT) (b:ND) (n:Nat) {j k:Nat} (h:j≤k):knC l b n j≤knC l b n k:=by
 induction k with
 | zero => obtain rfl:j=0:=by omega
           exact Nat.le_refl _
 | succ k ih =>
   by_cases hj:j=k+1
   · subst hj; exact Nat.le_refl _
   · have:=ih (by omega)
     rw [I9]; omega
theorem knC_4 {l:List FT} (h:mayP l=true) {n:Nat} {f:FT} (hf:l[n]? = some f) (b:ND):knC l b n 4≤1:=by
 by_cases hp:0 < knC l b n 4
 · have hh:=(MI h hf b).1 hp
   by_cases hk:f.known=true
   · exfalso
     have hz:∀ k,k≤3→knB l b n k=false:=fun k hk3=>by
      cases hc:knB l b n k with
      | false=>rfl
      | true =>
        have:=((SZ h hf b hk3).1 hc).1
        rw [hk] at this; cases this
     have:knC l b n 4=0:=by
      unfold knC
      rw [List.countP_eq_zero]
      intro k hk'
      rw [hz k (by rw [List.mem_range] at hk'; omega)]; simp
     omega
   · rw [(MI h hf b).2 hh (by simpa using hk)]; exact Nat.le_refl _
 · omega
def Wy (l:List FT) (n:Int) (em links:Bool) (b:ND):Nat:=(waysP l n em links).1.countP fun w=>Bq w b
theorem ZA {l:List FT} (h:mayP l=true) {n:Nat} {f:FT} (hf:l[n]? = some f) (hkn:f.known=false) {k:Nat} (hk:k≤3):mayP (D0 l n k).1=true:=by
 have hn:=(List.getElem?_eq_some_iff.1 hf).1
 have hz:Cf l n=0:=by unfold Cf; rw [h,if_pos rfl,if_pos ⟨by omega,by omega⟩]
 have hone:=(mayD h).one f (List.mem_of_getElem? hf)
 obtain ⟨e1,e2,_,_⟩:=NL hone hkn
 have hP:(D0 l n k).1=l.set n ⟨true,k,[],[],0,0⟩:=by
  unfold D0
  rw [if_pos hz,Int.toNat_natCast,hf]
  simp only [hkn]
  rw [if_neg (by simp),if_neg (by omega)]
 have hn1:1≤n:=by
  cases n with
  | succ n=>omega
  | zero =>
    cases l with
    | nil=>simp at hf
    | cons x t =>
      simp only [List.getElem?_cons_zero,Option.some.injEq] at hf
      subst hf
      simp only [mayP,Bool.and_eq_true] at h
      have:=h.1
      unfold FT.isDir at this
      rw [hkn] at this; cases this
 rw [hP]
 exact Nc h hf (f':=⟨true,k,[],[],0,0⟩) e2.symm (Tl hk) (.inr hn1)
theorem Wz {l:List FT} (h:mayP l=true) {n:Nat} {f:FT} (hf:l[n]? = some f) (he:(DV l n).2=0):mayP (DV l n).1=true:=by
 have hW:=To h hf
 cases hd:f.isDir with
 | false=>rw [hW,hd] at he; simp at he
 | true =>
 rw [hd,if_pos rfl] at hW
 by_cases hr1:f.rest=1
 · rw [hW,if_pos hr1] at he; simp at he
 rw [if_neg hr1] at hW
 by_cases ht:f.rest=2∧HL l f=false
 · rw [hW,if_pos ht] at he; simp at he
 rw [if_neg ht] at hW
 rw [hW]
 have hone:=(mayD h).one f (List.mem_of_getElem? hf)
 exact Nc h hf (f':={ f with rest:=1,beside:=0 }) rfl (Nh hone hd rfl rfl rfl rfl (by unfold FT.restB; simp)) (.inl hd)
theorem OY {l:List FT} {n:Int} {em links:Bool} (he:(waysP l n em links).2=0):mayP l=true∧∃ (i:Nat) (f:FT),n=(i:Int)∧l[i]? = some f:=by
 have hz:Cf l n=0:=by
  refine Classical.byContradiction fun hz=>?_
  unfold waysP at he
  cases em with
  | true =>
    rw [if_pos rfl] at he
    have hd:dirE l n=Cf l n:=by unfold dirE; rw [if_neg hz]
    have hm:(FA l n).2=Cf l n:=by unfold FA; rw [hd,if_neg hz]
    rw [hm,if_neg hz] at he
    exact hz he
  | false =>
    rw [if_neg (by simp)] at he
    have hk:(D0 l n 0).2=Cf l n:=by unfold D0; rw [if_neg hz]
    rw [hk,if_neg hz] at he
    exact hz he
 exact HJ hz
theorem Tc {l:List FT} {n:Int} {em links:Bool} (he:(waysP l n em links).2=0) (b:ND) {i:Nat} {f:FT} (hn:n=(i:Int)) (hm:mayP l=true) (hf:l[i]? = some f) :
    (∀ w∈(waysP l n em links).1,mayP w=true)∧Wy l n em links b≤1∧(0 < Wy l n em links b→Bq l b=true) ∧
    (Bq l b=true→(links=true∨DL b=false)→(em=false∨Uc l f=true)→Wy l n em links b=1):=by
 subst hn
 unfold Wy
 cases em with
 | true =>
   have he':=he
   unfold waysP at he' ⊢
   rw [if_pos rfl] at he' ⊢
   by_cases hmo:(FA l i).2=0
   · rw [if_pos hmo] at he' ⊢
     obtain ⟨k1,k2,k3,k4⟩:=ZR hm hf hmo b
     have hmB:moB l b i=Bq (FA l i).1 b:=by unfold moB; rw [decide_eq_true hmo,Bool.true_and]
     by_cases hwh:(DV l i).2=0
     · rw [if_pos hwh]
       have hwB:whB l b i=Bq (DV l i).1 b:=by unfold whB; rw [decide_eq_true hwh,Bool.true_and]
       rw [hmB,hwB] at k2 k3 k4
       refine ⟨fun w hw=>?_,?_⟩
       · simp only [List.mem_cons,List.mem_nil_iff,or_false] at hw
         rcases hw with rfl | rfl
         · exact Wz hm hf hwh
         · exact k1
       · simp only [List.countP_cons,List.countP_nil]
         cases h1:Bq (DV l i).1 b<;>cases h2:Bq (FA l i).1 b<;>rw [h1,h2] at k2 k3 k4<;>simp at k2 k3 k4 ⊢
         · intro a1 _
           exact k4 a1
         · exact k3
         · exact k3
     · rw [if_neg hwh]
       have hwB:whB l b i=false:=by unfold whB; rw [decide_eq_false hwh,Bool.false_and]
       rw [hmB,hwB] at k2 k3 k4
       refine ⟨fun w hw=>?_,?_⟩
       · simp only [List.mem_singleton] at hw
         subst hw; exact k1
       · simp only [List.countP_cons,List.countP_nil]
         cases h2:Bq (FA l i).1 b<;>rw [h2] at k2 k3 k4<;>simp at k2 k3 k4 ⊢
         · intro a1 _
           exact k4 a1
         · exact k3
   · rw [if_neg hmo] at he'
     exact absurd he' hmo
 | false =>
   have he':=he
   unfold waysP at he' ⊢
   rw [if_neg (by simp)] at he' ⊢
   by_cases hz:(D0 l i 0).2=0
   · rw [if_pos hz]
     have hkn:f.known=false:=(Tk hm hf (k:=0) (by omega)).1 hz
     have hmk:Ez links=2∧links=false∨Ez links=3∧links=true:=by cases links<;>simp [Ez]
     have hcount:((List.range (Ez links+1)).map fun k=>(D0 l i k).1).countP (fun w=>Bq w b)=knC l b i (Ez links+1):=by
      rw [List.countP_map]
      unfold knC
      refine List.countP_congr fun k hk=>?_
      rw [List.mem_range] at hk
      have:(D0 l i k).2=0:=by rw [Zk l i k (by omega)]; exact hz
      unfold knB
      rw [decide_eq_true this,Bool.true_and]
      exact Iff.rfl
     refine ⟨fun w hw=>?_,?_,?_,?_⟩
     · obtain ⟨k,hk,rfl⟩:=List.mem_map.1 hw
       rw [List.mem_range] at hk
       exact ZA hm hf hkn (by omega)
     · rw [hcount]
       exact Nat.le_trans (Ta l b i (by omega)) (knC_4 hm hf b)
     · rw [hcount]
       intro hp
       exact (MI hm hf b).1 (Nat.lt_of_lt_of_le hp (Ta l b i (by omega)))
     · intro hh hl _
       rw [hcount]
       have h4:=(MI hm hf b).2 hh hkn
       rcases hmk with ⟨h2,hlk⟩ | ⟨h3,_⟩
       · rw [h2]
         rw [show (4:Nat)=3+1 from rfl,I9] at h4
         have hnl:DL b=false:=by
          rcases hl with hl | hl
          · rw [hlk] at hl; cases hl
          · exact hl
         have h3:knB l b i 3=false:=by
          cases hc:knB l b i 3 with
          | false=>rfl
          | true =>
            have:=((SZ hm hf b (k:=3) (by omega)).1 hc).2.2
            exact absurd this (Wx hnl i)
         rw [h3] at h4
         simpa using h4
       · rw [h3]; exact h4
   · rw [if_neg hz] at he'
     exact absurd he' hz
end Go.Proofs.YtgloinighjdhlaaGreat

set_option maxHeartbeats 8000000
namespace Go.Proofs.YtgloinighjdhlaaGreat
open Go.Proofs.YtgloinighjdhlaaGreat.Am
attribute [local irreducible] W WO WE WQ WD Tr.get Tr.set
def rrF (k:Nat):C:=subC AF.body (List.replicate k 1)
def KWF (s:St):Ex→Tr→St→Prop:=KF s AF.res AF.cout (.b true)
def RowA (a:AV) (W:List Way):Prop:=(W=[]∧a=.nsl)∨∃ k v,a=.sl 1 (W.map wayV) (.tok k v)
theorem RowA.len {a:AV} {W:List Way} (h:RowA a W) (q:St):lenA q 1 a=some (.i .i64 (W.length:Nat)):=by
 rcases h with ⟨rfl,rfl⟩ | ⟨k,v,rfl⟩
 · rfl
 · simp [lenA]
theorem RowA.at {a:AV} {W:List Way} (h:RowA a W) {i:Nat} {w:Way} (hw:W[i]? = some w):∃ k v,a=.sl 1 (W.map wayV) (.tok k v):=by
 rcases h with ⟨rfl,rfl⟩ | h
 · simp at hw
 · exact h
theorem SJ {W:List Way} {i:Nat} {w:Way} (h:W[i]? = some w):(W.map wayV)[i]? = some (.bl w.1 6 0 w.2.length (w.2.length*6,false)):=by
 rw [List.getElem?_map,h]; rfl
theorem Ws {s q:St} {n:En} {T k v id m p:Nat} {xs:List AV} {fr x:Bool} {R:List RA} {B:List (Nat×Box)} (H:Hp s q n (⟨1,T,.sl 1 xs (.tok k v),xs,fr⟩::R) B) :
    ldA q false 1 (.ep (AV.bl id 6 0 m (p,x)).cells 0 (.tok k v))=some (.bl id 6 0 m (p,x)):=by
 have hr:=H.rows (i:=0) rfl
 have hok:q.ok (.tok k v)=true:=by
  rcases hr with hh | ⟨k',v',t,hh,_,_,h3,h4,_⟩
  · have:=Ea hh; simp [Au] at this
  · simp only [AV.sl.injEq,Cap.tok.injEq,true_and] at hh
    obtain ⟨rfl,rfl⟩:=hh
    simp only [St.ok,h3,h4,Nat.beq_refl]
 unfold ldA
 simp only [hok,if_true]
 rfl
section
variable {s q:St} {e:Tr} {l:List FT} {b:ND} {mb:Nat} {a:AV} {n:Int} {em links:Bool} {W:List Way}
theorem focW {R:List RA} {B:List (Nat×Box)} {m:En} (H:Hp s q m R (wayB W++B)) {i:Nat} {w:Way} (hi:W[i]? = some w):Hp s q m R (E0 (w.1,w.2)++(wayB (W.eraseIdx i)++B)):=by
 refine H.perm (.refl _) ?_
 rw [← List.append_assoc]
 exact (Yy (φ:=E0) hi).append_right _
theorem unfocW {R:List RA} {B:List (Nat×Box)} {m:En} {i:Nat} {w w':Way} (hi:W[i]? = some w) (H:Hp s q m R (E0 w'++(wayB (W.eraseIdx i)++B))):Hp s q m R (wayB (W.set i w')++B):=by
 refine H.perm (.refl _) ?_
 rw [← List.append_assoc]
 exact (Wb (φ:=E0) hi).symm.append_right _
structure WOk (P:List (List FT)) (W:List Way):Prop where
 kb:∀ w∈W,KBk w.2
 fs:W.map wayF=P
 fok:∀ f∈P,FOk f
 may:∀ f∈P,mayP f=true
 len:W.length≤4
theorem WOk.mem {P:List (List FT)} (h:WOk P W) {w:Way} (hw:w∈W):FOk (wayF w)∧mayP (wayF w)=true:=by
 have:wayF w∈P:=by rw [← h.fs]; exact List.mem_map_of_mem hw
 exact ⟨h.fok _ this,h.may _ this⟩
theorem WOk.sk {P:List (List FT)} (h:WOk P W) {w:Way} (hw:w∈W):SK w.2.length w.2∧w.2.length < 2^34:=by
 have hf:=(h.mem hw).1
 refine ⟨⟨rfl,h.kb w hw,fun p hp=>?_⟩,?_⟩
 · have:=hf.ok p.f (List.mem_map_of_mem hp)
   exact ⟨this.nlen,this.klen⟩
 · have:=hf.len
   simpa [wayF] using this
theorem f11 {P:List (List FT)} {B:List (Nat×Box)} (hW:WOk P W) (hA:RowA a W) (H:Hp s q s.en [⟨1,22,a,W.map wayV,true⟩] (wayB W++B)) (g11:e.get 11=a):Am.W (lim Aq) (rrF 11) e q (KWF s):=by
 show Am.W _ (subC AF.body [1,1,1,1,1,1,1,1,1,1,1]) _ _ (KF s _ _ (.b true))
 have hlen:=hW.len
 have hal:=fun q=>hA.len q
 simp only [AF,subC,go_sem,AD,AA,AC,AB,KB_n,KB_x,Nat.reduceBEq,Nat.reduceAdd,Nat.reduceLT,Nat.reduceLeDiff,Nat.reduceEqDiff,reduceIte,Int.reduceEq,reduceCtorEq]
 refine Br (fun x e q=>∃ (i:Nat) (W':List Way),i+x=W.length∧Hp s q s.en [⟨1,22,a,W.map wayV,true⟩] (wayB W'++B)∧W'.map wayV=W.map wayV∧(∀ j,i≤j→W'[j]? = W[j]?)∧e.get 11=a∧e.get 18=.i .i64 (i:Nat)) ?_ W.length _ _ ?_
 · clear g11 H
   rintro x e q ⟨i,W1,hix,H,hm,hrest,g11,g18⟩
   by_cases h:i < W.length
   · have e1:((i:Int) < (W.length:Int))=True:=eq_true (by omega)
     obtain ⟨w,hw⟩:∃ w,W[i]? = some w:=⟨_,List.getElem?_eq_getElem h⟩
     have hw1:=(hrest i (Nat.le_refl _)).trans hw
     obtain ⟨k,v,rfl⟩:=hA.at hw
     have hgi:=SJ hw
     have hn1:=Aj (show i+1 < 2^63 by omega)
     obtain ⟨hsk,hN⟩:=hW.sk (List.mem_of_getElem? hw)
     obtain ⟨q2,hsp,K',H2,hS2⟩:=Y9 (focW H hw1) hsk hN
     have H3:=unfocW hw1 H2
     have la:=Ws (id:=w.1) (m:=w.2.length) (p:=w.2.length*6) (x:=false) H
     have hm2:(W1.set i (w.1,K')).map wayV=W.map wayV:=by
      rw [← hm]
      refine List.ext_getElem? fun j=>?_
      rw [List.getElem?_map,List.getElem?_map,List.getElem?_set]
      split
      · rename_i hij
        subst hij
        split
        · rw [hw1]
          show some (AV.bl w.1 6 0 K'.length (K'.length*6,false))=some (AV.bl w.1 6 0 w.2.length (w.2.length*6,false))
          rw [hS2.1]
        · rename_i hh
          exact absurd (List.getElem?_eq_some_iff.1 hw1).1 hh
      · rfl
     have hr2:∀ j,i+1≤j→(W1.set i (w.1,K'))[j]? = W[j]? := fun j hj=>by
      rw [List.getElem?_set_ne (by omega)]
      exact hrest j (by omega)
     simp only [go_sem,AD,AA,AC,AB,KB_n,KB_x,Nat.reduceBEq,Nat.reduceAdd,Nat.reduceLT,Nat.reduceLeDiff,Nat.reduceEqDiff,reduceIte,Int.reduceEq,reduceCtorEq,g11,g18,hal,e1,AH,hgi,la,hsp,hn1]
     generalize hW2:W1.set i (w.1,K')=W2 at H3 hm2 hr2
     refine Br (fun y e q'=>∃ j:Nat,i+1≤j∧j+y=W.length∧q'=q2∧e.get 11=.sl 1 (W.map wayV) (.tok k v)∧e.get 18=.i .i64 (i:Nat)∧e.get 19=.i .i64 (j:Nat)) ?_ (W.length - (i+1)) _ _ ?_
     · clear g11 g18
       rintro y e q' ⟨j,hij,hjy,rfl,g11,g18,g19⟩
       by_cases hj:j < W.length
       · have e2:((j:Int) < (W.length:Int))=True:=eq_true (by omega)
         obtain ⟨w2,hw2⟩:∃ w,W[j]? = some w:=⟨_,List.getElem?_eq_getElem hj⟩
         have hgj:=SJ hw2
         have la2:=Ws (id:=w2.1) (m:=w2.2.length) (p:=w2.2.length*6) (x:=false) H3
         obtain ⟨hf2,hmy⟩:=hW.mem (List.mem_of_getElem? hw2)
         have hfd:=OX (focW H3 ((hr2 j hij).trans hw2)) (hW.kb w2 (List.mem_of_getElem? hw2)) (w2.2.length*6,false)
         have hmay:=b8 hfd hf2
         have hmy':mayP (w2.2.map KQ.f)=true:=hmy
         rw [hmy'] at hmay
         have hn2:=Aj (show j+1 < 2^63 by omega)
         simp only [go_sem,AD,AA,AC,AB,KB_n,KB_x,Nat.reduceBEq,Nat.reduceAdd,Nat.reduceLT,Nat.reduceLeDiff,Nat.reduceEqDiff,reduceIte,Int.reduceEq,reduceCtorEq,g11,g18,g19,hal,e2,AH,hgj,la2,hmay,hn2]
         exact ⟨y - 1,by omega,j+1,by omega,by omega,rfl⟩
       · have e2:((j:Int) < (W.length:Int))=False:=eq_false (by omega)
         simp only [go_sem,AD,AA,AC,AB,KB_n,KB_x,Nat.reduceBEq,Nat.reduceAdd,Nat.reduceLT,Nat.reduceLeDiff,Nat.reduceEqDiff,reduceIte,Int.reduceEq,reduceCtorEq,g11,g18,g19,hal,e2,hn1]
         exact ⟨x - 1,by omega,i+1,W2,by omega,H3,hm2,hr2,rfl⟩
     · simp only [go_sem,AD,AA,AC,AB,KB_n,KB_x,Nat.reduceBEq,Nat.reduceAdd,Nat.reduceLT,Nat.reduceLeDiff,Nat.reduceEqDiff,reduceIte,Int.reduceEq,reduceCtorEq,g11,g18]
       exact ⟨i+1,by omega,by omega,rfl⟩
   · have e1:((i:Int) < (W.length:Int))=False:=eq_false (by omega)
     simp only [go_sem,AD,AA,AC,AB,KB_n,KB_x,Nat.reduceBEq,Nat.reduceAdd,Nat.reduceLT,Nat.reduceLeDiff,Nat.reduceEqDiff,reduceIte,Int.reduceEq,reduceCtorEq,g11,g18,hal,e1]
     exact AP H.over rfl rfl
 · simp only [go_sem,AD,AA,AC,AB,KB_n,KB_x,Nat.reduceBEq,Nat.reduceAdd,Nat.reduceLT,Nat.reduceLeDiff,Nat.reduceEqDiff,reduceIte,Int.reduceEq,reduceCtorEq,g11]
   exact ⟨0,W,by omega,H,rfl,fun j _=>rfl,rfl⟩
end
end Go.Proofs.YtgloinighjdhlaaGreat

namespace Go.Proofs.YtgloinighjdhlaaGreat
open Go.Proofs.YtgloinighjdhlaaGreat.Am
attribute [local irreducible] W WO WE WQ WD Tr.get Tr.set
structure EF (l:List FT) (n:Int) (em links:Bool) (mb:Nat) (a:AV) (e:Tr):Prop where
 g0:e.get 0=fx l
 g2:e.get 2=.i .i64 n
 g3:e.get 3=.b em
 g4:e.get 4=.b links
 g6:e.get 6=.p mb 0
 g11:e.get 11=a
structure Cnt (l:List FT) (b:ND) (em links kn:Bool) (c:Nat):Prop where
 le:c≤1
 pos:0 < c→Bq l b=true
 one:Bq l b=true→(links=true∨DL b=false)→(em=false∨kn=true)→c=1
def knA (l:List FT) (k:Int):Bool:=match l[k.toNat]? with
 | some g=>g.known
 | none=>false
section
variable {s q:St} {e:Tr} {l:List FT} {b:ND} {mb i:Nat} {a:AV} {n:Int} {em links kn:Bool} {W:List Way} {P:List (List FT)} {f:FT} {c:Nat}
abbrev HW (s q:St) (a:AV) (W:List Way) (mb:Nat) (b:ND):Prop:=Hp s q s.en [⟨1,22,a,W.map wayV,true⟩] (wayB W++[(mb,.cells 37 b.cells)])
theorem HW.ldn (H:HW s q a W mb b):ldA q true 4 (.p mb 0)=some (.agg b.cells) :=
 Hp.ldw (H.perm (.refl _) List.perm_append_comm) (m:=4) 0 rfl rfl
theorem f10 (hW:WOk P W) (hA:RowA a W) (H:HW s q a W mb b) (hb:b.Ok) (hc:Cnt l b em links kn c) (E:EF l n em links mb a e) (g13:e.get 13=.b (Bq l b)) (g14:e.get 14=.i .i64 (c:Nat)) (g16:e.get 16=.b kn):Am.W (lim Aq) (rrF 10) e q (KWF s):=by
 obtain ⟨g0,g2,g3,g4,g6,g11⟩:=E
 have hr:∀ e,e.get 11=a→Am.W (lim Aq) (rrF 11) e q (KWF s):=fun e g11=>f11 hW hA H g11
 show Am.W _ (.seq (subC AF.body [1,1,1,1,1,1,1,1,1,1,0]) (rrF 11)) _ _ _
 generalize rrF 11=X at hr
 have lb:=H.ldn
 have hlk:=Yw (s:=q) hb
 unfold KWF at hr ⊢
 obtain ⟨c1,c2,c3⟩:=hc
 generalize Bq l b=h at g13 c2 c3
 generalize DL b=lk at hlk c3
 cases h with
 | false =>
   simp only [AF,subC,go_sem,AD,AA,AC,AB,KB_n,KB_x,Nat.reduceBEq,Nat.reduceAdd,Nat.reduceLT,Nat.reduceLeDiff,Nat.reduceEqDiff,reduceIte,Int.reduceEq,reduceCtorEq,g13]
   refine hr _ ?_
   simp only [go_sem,AD,AA,AC,AB,KB_n,KB_x,Nat.reduceBEq,Nat.reduceAdd,Nat.reduceLT,Nat.reduceLeDiff,Nat.reduceEqDiff,reduceIte,Int.reduceEq,reduceCtorEq,g11]
 | true =>
   rcases (show c=0∨c=1 by omega) with rfl | rfl
   · have e1 : (((0:Nat):Int)≠1)=True:=by simp
     cases links with
     | true =>
       cases em with
       | false=>exact absurd (c3 rfl (.inl rfl) (.inl rfl)) (by omega)
       | true =>
         cases kn with
         | true=>exact absurd (c3 rfl (.inl rfl) (.inr rfl)) (by omega)
         | false =>
           simp only [AF,subC,go_sem,AD,AA,AC,AB,KB_n,KB_x,Nat.reduceBEq,Nat.reduceAdd,Nat.reduceLT,Nat.reduceLeDiff,Nat.reduceEqDiff,reduceIte,Int.reduceEq,reduceCtorEq,g13,g14,g4,g6,lb,AX,hlk,g3,g16,e1]
           refine hr _ ?_
           simp only [go_sem,AD,AA,AC,AB,KB_n,KB_x,Nat.reduceBEq,Nat.reduceAdd,Nat.reduceLT,Nat.reduceLeDiff,Nat.reduceEqDiff,reduceIte,Int.reduceEq,reduceCtorEq,g11]
     | false =>
       cases lk with
       | true =>
         simp only [AF,subC,go_sem,AD,AA,AC,AB,KB_n,KB_x,Nat.reduceBEq,Nat.reduceAdd,Nat.reduceLT,Nat.reduceLeDiff,Nat.reduceEqDiff,reduceIte,Int.reduceEq,reduceCtorEq,g13,g14,g4,g6,lb,AX,hlk,g3,g16,e1]
         refine hr _ ?_
         simp only [go_sem,AD,AA,AC,AB,KB_n,KB_x,Nat.reduceBEq,Nat.reduceAdd,Nat.reduceLT,Nat.reduceLeDiff,Nat.reduceEqDiff,reduceIte,Int.reduceEq,reduceCtorEq,g11]
       | false =>
         cases em with
         | false=>exact absurd (c3 rfl (.inr rfl) (.inl rfl)) (by omega)
         | true =>
           cases kn with
           | true=>exact absurd (c3 rfl (.inr rfl) (.inr rfl)) (by omega)
           | false =>
             simp only [AF,subC,go_sem,AD,AA,AC,AB,KB_n,KB_x,Nat.reduceBEq,Nat.reduceAdd,Nat.reduceLT,Nat.reduceLeDiff,Nat.reduceEqDiff,reduceIte,Int.reduceEq,reduceCtorEq,g13,g14,g4,g6,lb,AX,hlk,g3,g16,e1]
             refine hr _ ?_
             simp only [go_sem,AD,AA,AC,AB,KB_n,KB_x,Nat.reduceBEq,Nat.reduceAdd,Nat.reduceLT,Nat.reduceLeDiff,Nat.reduceEqDiff,reduceIte,Int.reduceEq,reduceCtorEq,g11]
   · have e1:(((1:Nat):Int)≠1)=False:=by simp
     simp only [AF,subC,go_sem,AD,AA,AC,AB,KB_n,KB_x,Nat.reduceBEq,Nat.reduceAdd,Nat.reduceLT,Nat.reduceLeDiff,Nat.reduceEqDiff,reduceIte,Int.reduceEq,reduceCtorEq,g13,g14,g4,g6,e1]
     refine hr _ ?_
     simp only [go_sem,AD,AA,AC,AB,KB_n,KB_x,Nat.reduceBEq,Nat.reduceAdd,Nat.reduceLT,Nat.reduceLeDiff,Nat.reduceEqDiff,reduceIte,Int.reduceEq,reduceCtorEq,g11]
theorem f9 (hW:WOk P W) (hA:RowA a W) (H:HW s q a W mb b) (hb:b.Ok) (hc:Cnt l b em links kn c) (E:EF l n em links mb a e) (g13:e.get 13=.b (Bq l b)) (g14:e.get 14=.i .i64 (c:Nat)) (g16:e.get 16=.b kn):Am.W (lim Aq) (rrF 9) e q (KWF s):=by
 obtain ⟨g0,g2,g3,g4,g6,g11⟩:=E
 have hr:∀ e,EF l n em links mb a e→e.get 13=.b (Bq l b)→e.get 14=.i .i64 (c:Nat)→e.get 16=.b kn→Am.W (lim Aq) (rrF 10) e q (KWF s):=fun e E g13 g14 g16=>f10 hW hA H hb hc E g13 g14 g16
 show Am.W _ (.seq (subC AF.body [1,1,1,1,1,1,1,1,1,0]) (rrF 10)) _ _ _
 generalize rrF 10=X at hr
 unfold KWF at hr ⊢
 obtain ⟨c1,c2,c3⟩:=hc
 generalize Bq l b=h at g13 c2 c3 hr
 have hend:∀ e',e'.get 0=fx l→e'.get 2=.i .i64 n→e'.get 3=.b em→e'.get 4=.b links→e'.get 6=.p mb 0→e'.get 11=a→e'.get 13=.b h→e'.get 14=.i .i64 (c:Nat)→e'.get 16=.b kn→Am.W (lim Aq) X e' q (KF s AF.res AF.cout (.b true)) :=
  fun e' a0 a2 a3 a4 a6 a11 a13 a14 a16=>hr e' ⟨a0,a2,a3,a4,a6,a11⟩ a13 a14 a16
 clear hr
 have e1:((1:Int) < (c:Int))=False:=eq_false (by omega)
 cases h with
 | true =>
   simp only [AF,subC,go_sem,AD,AA,AC,AB,KB_n,KB_x,Nat.reduceBEq,Nat.reduceAdd,Nat.reduceLT,Nat.reduceLeDiff,Nat.reduceEqDiff,reduceIte,Int.reduceEq,reduceCtorEq,g13,g14,e1]
   refine hend _ ?_ ?_ ?_ ?_ ?_ ?_ ?_ ?_ ?_<;>simp only [go_sem,AD,AA,AC,AB,KB_n,KB_x,Nat.reduceBEq,Nat.reduceAdd,Nat.reduceLT,Nat.reduceLeDiff,Nat.reduceEqDiff,reduceIte,Int.reduceEq,reduceCtorEq,g0,g2,g3,g4,g6,g11,g13,g14,g16]
 | false =>
   obtain rfl:c=0:=Nat.eq_zero_of_not_pos fun h=>by cases c2 h
   have e2:(((0:Nat):Int)≠0)=False:=by simp
   simp only [AF,subC,go_sem,AD,AA,AC,AB,KB_n,KB_x,Nat.reduceBEq,Nat.reduceAdd,Nat.reduceLT,Nat.reduceLeDiff,Nat.reduceEqDiff,reduceIte,Int.reduceEq,reduceCtorEq,g13,g14,e1,e2]
   refine hend _ ?_ ?_ ?_ ?_ ?_ ?_ ?_ ?_ ?_<;>simp only [go_sem,AD,AA,AC,AB,KB_n,KB_x,Nat.reduceBEq,Nat.reduceAdd,Nat.reduceLT,Nat.reduceLeDiff,Nat.reduceEqDiff,reduceIte,Int.reduceEq,reduceCtorEq,g0,g2,g3,g4,g6,g11,g13,g14,g16]
theorem Wt (s:St) (f:Bool) (n:Nat) (l:List AV):G1 s (.ws f n l)=some (.ws f n l,s):=rfl
theorem f7 (hW:WOk P W) (hA:RowA a W) (H:HW s q a W mb b) (hb:b.Ok) (hm:mayP l=true) (hf:l[i]? = some f) (hfo:f.Ok) (hc:Cnt l b em links (Uc l f) c) (E:EF l (i:Nat) em links mb a e) (g13:e.get 13=.b (Bq l b)) (g14:e.get 14=.i .i64 (c:Nat)):Am.W (lim Aq) (rrF 7) e q (KWF s):=by
 obtain ⟨g0,g2,g3,g4,g6,g11⟩:=E
 have hr:∀ e,e.get 0=fx l→e.get 2=.i .i64 (i:Nat)→e.get 3=.b em→e.get 4=.b links→e.get 6=.p mb 0→e.get 11=a→e.get 13=.b (Bq l b)→e.get 14=.i .i64 (c:Nat)→e.get 16=.b (Uc l f)→Am.W (lim Aq) (rrF 9) e q (KWF s) :=
  fun e a0 a2 a3 a4 a6 a11 a13 a14 a16=>f9 hW hA H hb hc ⟨a0,a2,a3,a4,a6,a11⟩ a13 a14 a16
 show Am.W _ (.seq (subC AF.body [1,1,1,1,1,1,1,0]) (.seq (subC AF.body [1,1,1,1,1,1,1,1,0]) (rrF 9))) _ _ _
 generalize rrF 9=X at hr
 have hgi:=JH hf
 have l3:ldA q false 1 (.ep f.cells 3 .shut)=some (zx f.kids):=rfl
 unfold KWF at hr ⊢
 unfold fx at hr g0
 generalize Bq l b=h at g13 hr
 simp only [AF,subC,go_sem,AD,AA,AC,AB,KB_n,KB_x,Nat.reduceBEq,Nat.reduceAdd,Nat.reduceLT,Nat.reduceLeDiff,Nat.reduceEqDiff,reduceIte,Int.reduceEq,reduceCtorEq]
 refine Br (fun x e q'=>∃ j:Nat,j+x=f.kids.length∧q'=q∧e.get 0=.ws false 6 (l.map FT.av)∧e.get 2=.i .i64 (i:Nat)∧e.get 3=.b em∧e.get 4=.b links∧e.get 6=.p mb 0∧e.get 11=a∧e.get 13=.b h∧e.get 14=.i .i64 (c:Nat)∧e.get 16=.b ((f.kids.take j).all (knA l))∧e.get 17=.i .i64 (j:Nat)) ?_ f.kids.length _ _ ?_
 · clear g0 g2 g3 g4 g6 g11 g13 g14
   rintro x e q' ⟨j,hjx,rfl,g0,g2,g3,g4,g6,g11,g13,g14,g16,g17⟩
   by_cases h:j < f.kids.length
   · have e1:((j:Int) < (f.kids.length:Int))=True:=eq_true (by omega)
     obtain ⟨k,hk⟩:∃ k,f.kids[j]? = some k:=⟨_,List.getElem?_eq_getElem h⟩
     have hk2:=M7 hk
     obtain ⟨jj,g,_,_,rfl,_,hg,_,_⟩:=Pw hm hf (List.mem_of_getElem? hk)
     have hgg:=JH hg
     have hw1:=Aj (show j+1 < 2^63 by have:=hfo.klen; omega)
     have hall:(f.kids.take (j+1)).all (knA l)=((f.kids.take j).all (knA l)&&g.known):=by
      rw [List.take_add_one,hk]
      simp [knA,hg]
     cases ha:(f.kids.take j).all (knA l) with
     | false =>
       rw [ha] at g16 hall
       rw [Bool.false_and] at hall
       simp only [go_sem,AD,AA,AC,AB,KB_n,KB_x,Nat.reduceBEq,Nat.reduceAdd,Nat.reduceLT,Nat.reduceLeDiff,Nat.reduceEqDiff,reduceIte,Int.reduceEq,reduceCtorEq,g0,g2,g16,g17,Wt,AH,hgi,Cd,l3,zx,List.length_map,e1,hw1]
       refine ⟨x - 1,by omega,j+1,by omega,?_⟩
       rw [hall]; simp [g3,g4,g6,g11,g13,g14]
     | true =>
       rw [ha] at g16 hall
       rw [Bool.true_and] at hall
       have l0:ldA q' false 1 (.ep g.cells 0 .shut)=some (.b g.known):=rfl
       simp only [go_sem,AD,AA,AC,AB,KB_n,KB_x,Nat.reduceBEq,Nat.reduceAdd,Nat.reduceLT,Nat.reduceLeDiff,Nat.reduceEqDiff,reduceIte,Int.reduceEq,reduceCtorEq,g0,g2,g16,g17,Wt,AH,hgi,Cd,l3,zx,List.length_map,e1,hk2,Ee,Dm,hgg,l0,hw1]
       refine ⟨x - 1,by omega,j+1,by omega,?_⟩
       rw [hall]; simp [g3,g4,g6,g11,g13,g14]
   · have e1:((j:Int) < (f.kids.length:Int))=False:=eq_false (by omega)
     have hj:f.kids.take j=f.kids:=List.take_of_length_le (by omega)
     rw [hj] at g16
     simp only [go_sem,AD,AA,AC,AB,KB_n,KB_x,Nat.reduceBEq,Nat.reduceAdd,Nat.reduceLT,Nat.reduceLeDiff,Nat.reduceEqDiff,reduceIte,Int.reduceEq,reduceCtorEq,g0,g2,g16,g17,Wt,AH,hgi,Cd,l3,zx,List.length_map,e1]
     refine hr _ ?_ ?_ ?_ ?_ ?_ ?_ ?_ ?_ ?_<;>simp only [go_sem,AD,AA,AC,AB,KB_n,KB_x,Nat.reduceBEq,Nat.reduceAdd,Nat.reduceLT,Nat.reduceLeDiff,Nat.reduceEqDiff,reduceIte,Int.reduceEq,reduceCtorEq,g0,g2,g3,g4,g6,g11,g13,g14,g16]
     rfl
 · simp only [go_sem,AD,AA,AC,AB,KB_n,KB_x,Nat.reduceBEq,Nat.reduceAdd,Nat.reduceLT,Nat.reduceLeDiff,Nat.reduceEqDiff,reduceIte,Int.reduceEq,reduceCtorEq,g0,g2,g3,g4,g6,g11,g13,g14]
   refine ⟨0,by omega,?_⟩
   simp
end
end Go.Proofs.YtgloinighjdhlaaGreat

namespace Go.Proofs.YtgloinighjdhlaaGreat
open Go.Proofs.YtgloinighjdhlaaGreat.Am
attribute [local irreducible] W WO WE WQ WD Tr.get Tr.set
def cntW (b:ND) (W:List Way):Nat:=W.countP fun w=>Bq (wayF w) b
theorem Wu {P:List (List FT)} {W:List Way} (h:W.map wayF=P) (b:ND):cntW b W=P.countP fun w=>Bq w b:=by
 subst h
 unfold cntW
 rw [List.countP_map]
 rfl
theorem Wv {W:List Way} {i:Nat} {w:Way} (h:W[i]? = some w) (b:ND):cntW b (W.take (i+1))=cntW b (W.take i)+if Bq (wayF w) b then 1 else 0:=by
 unfold cntW
 rw [List.take_add_one,h,List.countP_append]
 simp [List.countP_cons]
section
variable {s q:St} {e:Tr} {l:List FT} {b:ND} {mb i:Nat} {a:AV} {n:Int} {em links kn:Bool} {W:List Way} {P:List (List FT)} {f:FT} {c:Nat}
theorem f4 (hW:WOk P W) (hA:RowA a W) (H:HW s q a W mb b) (ho:FOk l) (hb:b.Ok) (hnb:nodesN b < 2^62) (hm:mayP l=true) (hf:l[i]? = some f) (hc:Cnt l b em links (Uc l f) (cntW b W)) (E:EF l (i:Nat) em links mb a e):Am.W (lim Aq) (rrF 4) e q (KWF s):=by
 obtain ⟨g0,g2,g3,g4,g6,g11⟩:=E
 have hr:∀ e,e.get 0=fx l→e.get 2=.i .i64 (i:Nat)→e.get 3=.b em→e.get 4=.b links→e.get 6=.p mb 0→e.get 11=a→e.get 13=.b (Bq l b)→e.get 14=.i .i64 (cntW b W:Nat)→Am.W (lim Aq) (rrF 7) e q (KWF s) :=
  fun e a0 a2 a3 a4 a6 a11 a13 a14=>f7 hW hA H hb hm hf (ho.ok f (List.mem_of_getElem? hf)) hc ⟨a0,a2,a3,a4,a6,a11⟩ a13 a14
 show Am.W _ (.seq (subC AF.body [1,1,1,1,0]) (.seq (subC AF.body [1,1,1,1,1,0]) (.seq (subC AF.body [1,1,1,1,1,1,0]) (rrF 7)))) _ _ _
 generalize rrF 7=X at hr
 have lb:=H.ldn
 have hho:=Wa (s:=q) (Q3 l q) ho hb hnb
 have hal:=fun q=>hA.len q
 have hlen:=hW.len
 have hnt:b.cells.all noTok=true:=rfl
 unfold KWF at hr ⊢
 unfold fx at hr g0 hho
 generalize Bq l b=h at hho hr
 simp only [AF,subC,go_sem,AD,AA,AC,AB,KB_n,KB_x,Nat.reduceBEq,Nat.reduceAdd,Nat.reduceLT,Nat.reduceLeDiff,Nat.reduceEqDiff,reduceIte,Int.reduceEq,reduceCtorEq,g0,g6,lb,AX,hho]
 refine Br (fun x e q'=>∃ j:Nat,j+x=W.length∧q'=q∧e.get 0=.ws false 6 (l.map FT.av)∧e.get 2=.i .i64 (i:Nat)∧e.get 3=.b em∧e.get 4=.b links∧e.get 6=.p mb 0∧e.get 11=a∧e.get 13=.b h∧e.get 14=.i .i64 (cntW b (W.take j):Nat)∧e.get 15=.i .i64 (j:Nat)) ?_ W.length _ _ ?_
 · clear g0 g2 g3 g4 g6 g11
   rintro x e q' ⟨j,hjx,rfl,g0,g2,g3,g4,g6,g11,g13,g14,g15⟩
   by_cases hj:j < W.length
   · have e1:((j:Int) < (W.length:Int))=True:=eq_true (by omega)
     obtain ⟨w,hw⟩:∃ w,W[j]? = some w:=⟨_,List.getElem?_eq_getElem hj⟩
     obtain ⟨k,v,rfl⟩:=hA.at hw
     have hgi:=SJ hw
     have hwm:=List.mem_of_getElem? hw
     have la:=Ws (id:=w.1) (m:=w.2.length) (p:=w.2.length*6) (x:=false) H
     obtain ⟨hfw,hmw⟩:=hW.mem hwm
     have hfd:=OX (focW H hw) (hW.kb w hwm) (w.2.length*6,false)
     have hmay:=b8 hfd hfw
     have hmw':mayP (w.2.map KQ.f)=true:=hmw
     rw [hmw'] at hmay
     have hhw:=Wa hfd hfw hb hnb
     have hn1:=Aj (show j+1 < 2^63 by omega)
     have hct:=Wv hw b
     have hcl:cntW b (W.take j)≤j:=by
      unfold cntW
      exact Nat.le_trans List.countP_le_length (by rw [List.length_take]; omega)
     have hhw':Bq (w.2.map KQ.f) b=Bq (wayF w) b:=rfl
     rw [hhw'] at hhw
     cases hH:Bq (wayF w) b with
     | true =>
       rw [hH] at hhw hct
       rw [if_pos rfl] at hct
       have hn2:=Aj (show cntW b (W.take j)+1 < 2^63 by omega)
       simp only [go_sem,AD,AA,AC,AB,KB_n,KB_x,Nat.reduceBEq,Nat.reduceAdd,Nat.reduceLT,Nat.reduceLeDiff,Nat.reduceEqDiff,reduceIte,Int.reduceEq,reduceCtorEq,g0,g2,g6,g11,g14,g15,hal,e1,AH,hgi,la,hmay,lb,AX,hnt,hhw,hn1,hn2]
       refine ⟨x - 1,by omega,j+1,by omega,?_⟩
       rw [hct]; simp [g3,g4,g13]
     | false =>
       rw [hH] at hhw hct
       rw [if_neg (by simp),Nat.add_zero] at hct
       simp only [go_sem,AD,AA,AC,AB,KB_n,KB_x,Nat.reduceBEq,Nat.reduceAdd,Nat.reduceLT,Nat.reduceLeDiff,Nat.reduceEqDiff,reduceIte,Int.reduceEq,reduceCtorEq,g0,g2,g6,g11,g14,g15,hal,e1,AH,hgi,la,hmay,lb,AX,hnt,hhw,hn1]
       refine ⟨x - 1,by omega,j+1,by omega,?_⟩
       rw [hct]; simp [g3,g4,g13]
   · have e1:((j:Int) < (W.length:Int))=False:=eq_false (by omega)
     have hj:W.take j=W:=List.take_of_length_le (by omega)
     rw [hj] at g14
     simp only [go_sem,AD,AA,AC,AB,KB_n,KB_x,Nat.reduceBEq,Nat.reduceAdd,Nat.reduceLT,Nat.reduceLeDiff,Nat.reduceEqDiff,reduceIte,Int.reduceEq,reduceCtorEq,g0,g2,g6,g11,g14,g15,hal,e1]
     refine hr _ ?_ ?_ ?_ ?_ ?_ ?_ ?_ ?_<;>simp only [go_sem,AD,AA,AC,AB,KB_n,KB_x,Nat.reduceBEq,Nat.reduceAdd,Nat.reduceLT,Nat.reduceLeDiff,Nat.reduceEqDiff,reduceIte,Int.reduceEq,reduceCtorEq,g0,g2,g3,g4,g6,g11,g13,g14]
 · simp only [go_sem,AD,AA,AC,AB,KB_n,KB_x,Nat.reduceBEq,Nat.reduceAdd,Nat.reduceLT,Nat.reduceLeDiff,Nat.reduceEqDiff,reduceIte,Int.reduceEq,reduceCtorEq,g0,g2,g3,g4,g6,g11]
   refine ⟨0,by omega,?_⟩
   simp [cntW]
theorem f1 (ho:FOk l) (hb:b.Ok) (hnb:nodesN b < 2^62) (H:Hp s q s.en [] [(mb,.cells 37 b.cells)]) (g0:e.get 0=fx l) (g2:e.get 2=.i .i64 n) (g3:e.get 3=.b em) (g4:e.get 4=.b links) (g6:e.get 6=.p mb 0):Am.W (lim Aq) (rrF 1) e q (KWF s):=by
 have hlo:=d_long (s:=q) ho
 have hm7:=d_may7 (s:=q) hb hnb
 have hn7:=Yv (s:=q) hb hnb
 have haw:=cA q
 have lb:=H.ldw (m:=4) 0 rfl rfl
 obtain ⟨r,q2,hwc,hwp⟩:=ways_K l ho n em links H
 have hr:∀ e a W,WOk (waysP l n em links).1 W→RowA a W→HW s q2 a W mb b→(waysP l n em links).2=0→e.get 0=fx l→e.get 2=.i .i64 n→e.get 3=.b em→e.get 4=.b links→e.get 6=.p mb 0→e.get 11=a→Am.W (lim Aq) (rrF 4) e q2 (KWF s):=by
  intro e a W hW hA HH he g0 g2 g3 g4 g6 g11
  obtain ⟨hm,i,f,hn,hf⟩:=OY he
  obtain ⟨k1,k2,k3,k4⟩:=Tc he b hn hm hf
  subst hn
  have hcw:cntW b W=Wy l (i:Nat) em links b:=Wu hW.fs b
  rw [← hcw] at k2 k3 k4
  exact f4 hW hA HH ho hb hnb hm hf ⟨k2,k3,k4⟩ ⟨g0,g2,g3,g4,g6,g11⟩
 show Am.W _ (.seq (subC AF.body [1,0]) (.seq (subC AF.body [1,1,0]) (.seq (subC AF.body [1,1,1,0]) (rrF 4)))) _ _ _
 generalize rrF 4=X at hr
 unfold KWF at hr ⊢
 unfold fx at hr g0 hlo hwc
 cases hL:Pf l with
 | true =>
   rw [hL] at hlo
   simp only [AF,subC,go_sem,AD,AA,AC,AB,KB_n,KB_x,Nat.reduceBEq,Nat.reduceAdd,Nat.reduceLT,Nat.reduceLeDiff,Nat.reduceEqDiff,reduceIte,Int.reduceEq,reduceCtorEq,g0,hlo,haw]
   exact AP H.over rfl rfl
 | false =>
   rw [hL] at hlo
   cases hM:mayN b with
   | false =>
     rw [hM] at hm7
     simp only [AF,subC,go_sem,AD,AA,AC,AB,KB_n,KB_x,Nat.reduceBEq,Nat.reduceAdd,Nat.reduceLT,Nat.reduceLeDiff,Nat.reduceEqDiff,reduceIte,Int.reduceEq,reduceCtorEq,g0,g6,hlo,lb,AX,hm7,haw]
     exact AP H.over rfl rfl
   | true =>
     rw [hM] at hm7
     rcases Classical.propComplete ((150:Int) < ((nodesN b:Nat):Int)) with e2 | e2
     · simp only [AF,subC,go_sem,AD,AA,AC,AB,KB_n,KB_x,Nat.reduceBEq,Nat.reduceAdd,Nat.reduceLT,Nat.reduceLeDiff,Nat.reduceEqDiff,reduceIte,Int.reduceEq,reduceCtorEq,g0,g6,hlo,lb,AX,hm7,hn7,e2,haw]
       exact AP H.over rfl rfl
     · rcases hwp with ⟨hne,rfl,H2⟩ | ⟨he,a,W,rfl,H2,hkb,hfs,hsh⟩
       · have e3:((waysP l n em links).2≠0)=True:=by simp [hne]
         have e4:((0:Nat):Int)=0:=rfl
         simp only [AF,subC,go_sem,AD,AA,AC,AB,KB_n,KB_x,Nat.reduceBEq,Nat.reduceAdd,Nat.reduceLT,Nat.reduceLeDiff,Nat.reduceEqDiff,reduceIte,Int.reduceEq,reduceCtorEq,g0,g2,g3,g4,g6,hlo,lb,AX,hm7,hn7,e2,haw,hwc,e3,e4]
         exact AP H2.over rfl rfl
       · have e3:((0:Int)≠0)=False:=by simp
         have hwl:W.length≤4:=by
          have:=Yq l n em links
          rw [← hfs,List.length_map] at this
          exact this
         obtain ⟨hm,i,f,hn,hf⟩:=OY he
         obtain ⟨k1,_⟩:=Tc he b hn hm hf
         have hW:WOk (waysP l n em links).1 W:=⟨hkb,hfs,ho.ways n em links,k1,hwl⟩
         simp only [AF,subC,go_sem,AD,AA,AC,AB,KB_n,KB_x,Nat.reduceBEq,Nat.reduceAdd,Nat.reduceLT,Nat.reduceLeDiff,Nat.reduceEqDiff,reduceIte,Int.reduceEq,reduceCtorEq,g0,g2,g3,g4,g6,hlo,lb,AX,hm7,hn7,e2,haw,hwc,e3]
         refine hr _ a W hW hsh H2 he ?_ ?_ ?_ ?_ ?_ ?_<;>simp only [go_sem,AD,AA,AC,AB,KB_n,KB_x,Nat.reduceBEq,Nat.reduceAdd,Nat.reduceLT,Nat.reduceLeDiff,Nat.reduceEqDiff,reduceIte,Int.reduceEq,reduceCtorEq,g0,g2,g3,g4,g6]
end
theorem US (l:List FT) (b:ND) (n:Int) (em links:Bool) (ho:FOk l) (hb:b.Ok) (hnb:nodesN b < 2^62) (s:St) (hw:Wf s) :
    (lim Aq).call Bm [fx l,.agg b.cells,.i .i64 n,.b em,.b links] s=some (.b true,s):=by
 refine fn_W Gf rfl rfl ?_
 have hz0:wkZ AF.cin [fx l,.agg b.cells,.i .i64 n,.b em,.b links]=[fx l,.agg b.cells,.i .i64 n,.b em,.b links]:=by
  simp only [AF,wkZ,LF .ws,wk]
  simp [ND.cells,wkZ,wk,fx]
 rw [hz0]
 have H1:=(Hp.begin hw).new (.cells 37 b.cells)
 generalize hq1:s.enter.new (.cells 37 b.cells)=q1 at H1
 generalize hm1:s.enter.nb=m1 at H1
 have hr:∀ e,e.get 0=fx l→e.get 2=.i .i64 n→e.get 3=.b em→e.get 4=.b links→e.get 6=.p m1 0→Am.W (lim Aq) (rrF 1) e q1 (KWF s):=fun e g0 g2 g3 g4 g6=>f1 ho hb hnb H1 g0 g2 g3 g4 g6
 unfold KWF at hr
 show Am.W _ (.seq (subC AF.body [0]) (rrF 1)) _ _ _
 generalize rrF 1=X at hr
 unfold fx at hr ⊢
 simp only [AF,subC,go_sem,AD,AA,AC,AB,KB_n,KB_x,Nat.reduceBEq,Nat.reduceAdd,Nat.reduceLT,Nat.reduceLeDiff,Nat.reduceEqDiff,reduceIte,Int.reduceEq,reduceCtorEq,Ar,hq1,hm1] at hr ⊢
 refine hr _ ?_ ?_ ?_ ?_ ?_<;>simp only [go_sem,AD,AA,AC,AB,KB_n,KB_x,Nat.reduceBEq,Nat.reduceAdd,Nat.reduceLT,Nat.reduceLeDiff,Nat.reduceEqDiff,reduceIte,Int.reduceEq,reduceCtorEq]
end Go.Proofs.YtgloinighjdhlaaGreat

namespace Go.Proofs.YtgloinighjdhlaaGreat
open Go.Proofs.YtgloinighjdhlaaGreat.Am Go.Proofs
theorem cF (hX:Ctx Tryz.prog gt prog) {f:Nat} {fn:Fun} (h:prog f=some fn) (hp:fn.prim=none):∃ F b,Tryz.prog.funcs[f]? = some F∧F.body=some b:=by
 obtain ⟨F,pops,raw,hF,hc⟩:=hX.fns f fn h hp
 obtain ⟨b,hb,_⟩:=JX hc
 exact ⟨F,b,hF,hb⟩
theorem Q8 (hN:Cg Tryz.prog) (hX:Ctx Tryz.prog gt prog) {f:Nat} {fn:Fun} (h:prog f=some fn) (hp:fn.prim=none):Rv Tryz.prog gt f (dq f) :=
 .inr ⟨_,rfl,U8 hN hX (cF hX h hp)⟩
theorem cG (hN:Cg Tryz.prog) (hX:Ctx Tryz.prog gt prog) (f:Nat) (fn:Fun) (h:Aq f=some fn):Rv Tryz.prog gt f fn:=by
 unfold Aq at h
 by_cases e:f=Bm
 · rw [if_pos e] at h; subst e; cases h; exact Dn _ _ Gt
 rw [if_neg e] at h; clear e
 by_cases e:f=BK
 · rw [if_pos e] at h; subst e; cases h; exact Dn _ _ Hq
 rw [if_neg e] at h; clear e
 by_cases e:f=Db
 · rw [if_pos e] at h; subst e; cases h; exact Dn _ _ R2
 rw [if_neg e] at h; clear e
 by_cases e:f=BX
 · rw [if_pos e] at h; subst e; cases h; exact Dn _ _ KJ
 rw [if_neg e] at h; clear e
 by_cases e:f=Ay
 · rw [if_pos e] at h; subst e; cases h; exact Dn _ _ JA
 rw [if_neg e] at h; clear e
 by_cases e:f=Az
 · rw [if_pos e] at h; subst e; cases h; exact Dn _ _ JB
 rw [if_neg e] at h; clear e
 by_cases e:f=AZ
 · rw [if_pos e] at h; subst e; cases h; exact Dn _ _ JC
 rw [if_neg e] at h; clear e
 by_cases e:f=D6
 · rw [if_pos e] at h; subst e; cases h; exact Dn _ _ Ql
 rw [if_neg e] at h; clear e
 by_cases e:f=Bu
 · rw [if_pos e] at h; subst e; cases h; exact Dn _ _ N3
 rw [if_neg e] at h; clear e
 by_cases e:f=Eo
 · rw [if_pos e] at h; subst e; cases h; exact Dn _ _ Qi
 rw [if_neg e] at h; clear e
 by_cases e:f=Co
 · rw [if_pos e] at h; subst e; cases h; exact Dn _ _ Nz
 rw [if_neg e] at h; clear e
 by_cases e:f=Cp
 · rw [if_pos e] at h; subst e; cases h; exact Dn _ _ N0
 rw [if_neg e] at h; clear e
 by_cases e:f=EE
 · rw [if_pos e] at h; subst e; cases h; exact Dn _ _ PP
 rw [if_neg e] at h; clear e
 by_cases e:f=CV
 · rw [if_pos e] at h; subst e; cases h; exact Dn _ _ Mz
 rw [if_neg e] at h; clear e
 by_cases e:f=CW
 · rw [if_pos e] at h; subst e; cases h; exact Dn _ _ M0
 rw [if_neg e] at h; clear e
 by_cases e:f=Ep
 · rw [if_pos e] at h; subst e; cases h; exact Dn _ _ Qj
 rw [if_neg e] at h; clear e
 by_cases e:f=Cq
 · rw [if_pos e] at h; subst e; cases h; exact Dn _ _ N1
 rw [if_neg e] at h; clear e
 by_cases e:f=Cr
 · rw [if_pos e] at h; subst e; cases h; exact Dn _ _ N2
 rw [if_neg e] at h; clear e
 by_cases e:f=Cn
 · rw [if_pos e] at h; subst e; cases h; exact Dn _ _ Ny
 rw [if_neg e] at h; clear e
 by_cases e:f=Fb
 · rw [if_pos e] at h; subst e; cases h; exact Dn _ _ R5
 rw [if_neg e] at h; clear e
 by_cases e:f=AN
 · rw [if_pos e] at h; subst e; cases h; exact Dn _ _ Cm
 rw [if_neg e] at h; clear e
 by_cases e:f=Ax
 · rw [if_pos e] at h; subst e; cases h; exact Dn _ _ II
 rw [if_neg e] at h; clear e
 by_cases e:f=Ae
 · rw [if_pos e] at h; subst e; cases h; exact Dn _ _ FI
 rw [if_neg e] at h; clear e
 by_cases e:f=BJ
 · rw [if_pos e] at h; subst e; cases h; exact Dn _ _ Ho
 rw [if_neg e] at h; clear e
 by_cases e:f=Aw
 · rw [if_pos e] at h; subst e; cases h; exact Q8 hN hX FM rfl
 rw [if_neg e] at h; clear e
 by_cases e:f=Af
 · rw [if_pos e] at h; subst e; cases h; exact Q8 hN hX Et rfl
 rw [if_neg e] at h; clear e
 by_cases e:f=A1
 · rw [if_pos e] at h; subst e; cases h; exact Q8 hN hX Fv rfl
 rw [if_neg e] at h; clear e
 by_cases e:f=Ad
 · rw [if_pos e] at h; subst e; cases h; exact Q8 hN hX E8 rfl
 rw [if_neg e] at h; clear e
 by_cases e:f=CO
 · rw [if_pos e] at h; subst e; cases h; exact Q8 hN hX J9 rfl
 rw [if_neg e] at h; clear e
 by_cases e:f=DQ
 · rw [if_pos e] at h; subst e; cases h; exact Q8 hN hX Qk rfl
 rw [if_neg e] at h; clear e
 by_cases e:f=DG
 · rw [if_pos e] at h; subst e; cases h; exact Q8 hN hX My rfl
 rw [if_neg e] at h; clear e
 by_cases e:f=Cj
 · rw [if_pos e] at h; subst e; cases h; exact Q8 hN hX KA rfl
 rw [if_neg e] at h; clear e
 cases h
end Go.Proofs.YtgloinighjdhlaaGreat
