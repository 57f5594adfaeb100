/-
  The document's Sorted.
-/
import Derived.Test.YtmnbfgfgjmmhfaaGreatDoorLAll4
import Derived.Test.YtmnbfgfgjmmhfaaGreatDoorAmSorted
set_option linter.all false
set_option linter.unusedVariables false
set_option linter.unusedSimpArgs false
set_option linter.unusedSectionVars false
set_option maxRecDepth 100000
set_option maxHeartbeats 4000000
namespace Go.Proofs.YtmnbfgfgjmmhfaaGreatDoor
open Go.Proofs.YtmnbfgfgjmmhfaaGreatDoor.Am
attribute [local irreducible] W WO WE WQ WD Tr.get Tr.set
section
variable {s0 s:St} {n:En} {R:List RA} {B:List (Nat×Box)}
theorem _root_.Go.Proofs.YtmnbfgfgjmmhfaaGreatDoor.Am.Hp.slc (H:Hp s0 s n R B) (i:Nat) {es T:Nat} {a:AV} {xs:List AV} {fr:Bool} (h:R[i]? = some ⟨es,T,a,xs,fr⟩) {lo hi:Option AV} {p q:Nat} (hb:Ck xs.length lo hi=some (p,q)) :
    ∃ a' s',CH s false es a lo hi none=some (a',s')∧elems s' es a'=some ((xs.drop p).take (q - p))∧(EY es a' ((xs.drop p).take (q - p))∨(a'=a∧(xs.drop p).take (q - p)=xs))∧(∃ fr',Hp s0 s' n (R.set i ⟨es,T,a,xs,fr'⟩) B)∧s'.nb=s.nb:=by
 have hself:R.set i ⟨es,T,a,xs,fr⟩=R:=by
  apply List.ext_getElem?
  intro j
  rw [List.getElem?_set]
  by_cases hj:i=j
  · subst hj
    rw [if_pos rfl,if_pos (List.getElem?_eq_some_iff.1 h).1,h]
  · rw [if_neg hj]
 have hH:∃ fr',Hp s0 s n (R.set i ⟨es,T,a,xs,fr'⟩) B:=⟨fr,by rw [hself]; exact H⟩
 have hbl:∀ {p q:Nat},Ck 0 lo hi=some (p,q)→p=0∧q=0:=by
  intro p q hh
  unfold Ck at hh
  simp only at hh
  split at hh
  · split at hh
    · rename_i hq
      cases hh
      omega
    · cases hh
  · cases hh
 rcases H.rows h with (⟨h1,h2⟩ | ⟨h1,h2⟩ | h1 | h1) | ⟨k,v,t,ha,k1,k2,k3,k4,k5,k6,k7⟩
 · simp only at h1 h2; subst h1; subst h2
   rw [List.length_nil] at hb
   obtain ⟨rfl,rfl⟩:=hbl hb
   exact ⟨.nsl,s,by simp only [CH,hb],rfl,.inl (.inl ⟨rfl,rfl⟩),hH,rfl⟩
 · simp only at h1 h2; subst h1; subst h2
   rw [List.length_nil] at hb
   obtain ⟨rfl,rfl⟩:=hbl hb
   exact ⟨.wz,s,by simp only [CH,hb],rfl,.inl (.inr (.inl ⟨rfl,rfl⟩)),hH,rfl⟩
 · simp only at h1; subst h1
   by_cases hw:p=0∧q=xs.length
   · have hys:(xs.drop p).take (q - p)=xs:=by rw [hw.1,hw.2]; simp
     refine ⟨.sl es xs .full,s,?_,?_,.inr ⟨rfl,hys⟩,hH,rfl⟩
     · simp only [CH,if_true,hb]
       rw [if_pos hw]
     · rw [hys]; simp [elems,St.ok]
   · by_cases hq:q=xs.length
     · refine ⟨.sl es ((xs.drop p).take (q - p)) .full,s,?_,by simp [elems,St.ok],.inl (.inr (.inr (.inl rfl))),hH,rfl⟩
       simp only [CH,if_true,hb]
       rw [if_neg hw,if_pos hq]
     · refine ⟨.sl es ((xs.drop p).take (q - p)) .shut,s,?_,by simp [elems,St.ok],.inl (.inr (.inr (.inr (.inl rfl)))),hH,rfl⟩
       simp only [CH,if_true,hb]
       rw [if_neg hw,if_neg hq]
 · simp only at h1; subst h1
   by_cases hw:p=0∧q=xs.length
   · have hys:(xs.drop p).take (q - p)=xs:=by rw [hw.1,hw.2]; simp
     refine ⟨.ws true es xs,s,?_,?_,.inr ⟨rfl,hys⟩,hH,rfl⟩
     · simp only [CH,if_true,hb]
       rw [if_pos hw]
     · rw [hys]; simp [elems]
   · refine ⟨.ws false es ((xs.drop p).take (q - p)),s,?_,by simp [elems],.inl (.inr (.inr (.inr (.inr (.inr rfl))))),hH,rfl⟩
     simp only [CH,if_true,hb]
     rw [if_neg hw]
 · simp only at ha k5 k6 k7
   subst ha
   by_cases hw:p=0∧q=xs.length
   · have hys:(xs.drop p).take (q - p)=xs:=by rw [hw.1,hw.2]; simp
     refine ⟨.sl es xs (.tok k v),s,?_,?_,.inr ⟨rfl,hys⟩,hH,rfl⟩
     · simp only [CH,if_true,hb]
       rw [if_pos hw]
     · rw [hys]; simp [elems,St.ok,k3,k4]
   · refine ⟨.sl es ((xs.drop p).take (q - p)) .shut,s.setTok k { t with pub:=max t.pub xs.length },?_,by simp [elems,St.ok],.inl (.inr (.inr (.inr (.inl rfl)))),⟨false,?_⟩,rfl⟩
     · simp only [CH,if_true,hb,k3,k4,Bool.false_and,Bool.false_eq_true,if_false]
       rw [if_neg hw]
     · exact H.setTok h rfl k3 xs { t with pub:=max t.pub xs.length } v false k4 k5 rfl (fun hh=>by cases hh)
end
theorem Me:∀ (a b:List Nat),(ltN a b||beqN a b)=!ltN b a
 | [],[]=>rfl
 | [],_::_=>rfl
 | _::_,[]=>rfl
 | a :: x,b::y=>by
   have:=Me x y
   simp only [ltN,beqN]
   rcases Nat.lt_trichotomy a b with h | h | h
   · have e1:Nat.blt a b=true:=by rw [Nat.blt_eq]; exact h
     have e2:Nat.blt b a=false:=by rw [Bool.eq_false_iff]; intro hh; rw [Nat.blt_eq] at hh; omega
     have e3:Nat.beq b a=false:=by rw [Bool.eq_false_iff]; intro hh; rw [Nat.beq_eq] at hh; omega
     simp [e1,e2,e3]
   · subst h
     have e1:Nat.blt a a=false:=by rw [Bool.eq_false_iff]; intro hh; rw [Nat.blt_eq] at hh; omega
     simp only [e1,Nat.beq_refl,Bool.true_and,Bool.false_or,this]
   · have e1:Nat.blt b a=true:=by rw [Nat.blt_eq]; exact h
     have e2:Nat.blt a b=false:=by rw [Bool.eq_false_iff]; intro hh; rw [Nat.blt_eq] at hh; omega
     have e3:Nat.beq a b=false:=by rw [Bool.eq_false_iff]; intro hh; rw [Nat.beq_eq] at hh; omega
     simp [e1,e2,e3]
theorem OI:∀ a:List Nat,ltN a a=false
 | []=>rfl
 | c::a=>by
   have:Nat.blt c c=false:=by rw [Bool.eq_false_iff]; intro h; rw [Nat.blt_eq] at h; omega
   simp only [ltN,this,OI a,Bool.and_false,Bool.or_self]
theorem Kc:∀ {a b c:List Nat},ltN a b=true→ltN b c=true→ltN a c=true
 | [],[],c,h,_=>by simp [ltN] at h
 | [],b::m,[],_,h=>by simp [ltN] at h
 | [],b::m,c::r,_,_=>rfl
 | a::l,[],_,h,_=>by simp [ltN] at h
 | a::l,b::m,[],_,h=>by simp [ltN] at h
 | a::l,b::m,c::r,h1,h2=>by
   simp only [ltN,Bool.or_eq_true,Bool.and_eq_true,Nat.blt_eq,Nat.beq_eq] at h1 h2 ⊢
   rcases h1 with h1 | ⟨h1,h1'⟩<;>rcases h2 with h2 | ⟨h2,h2'⟩
   · exact .inl (by omega)
   · exact .inl (by omega)
   · exact .inl (by omega)
   · exact .inr ⟨by omega,Kc h1' h2'⟩
theorem gtr_lt (x y:List Nat):Am.binOp .gtr (.s x) (.s y)=some (.b (ltN y x)):=by
 have h:=Me x y
 simp only [Am.binOp,Oa,h,Bool.not_not]
theorem OJ {z x:List Nat} (h:ltN x z=false) (hne:¬ z=x):ltN z x=true:=by
 have h1:=Me z x
 rw [h,JD,decide_eq_false hne] at h1
 simpa using h1
theorem NN:∀ {a b:List (List Nat)},a.Pairwise (fun x y=>ltN x y=true)→b.Pairwise (fun x y=>ltN x y=true)→(∀ x,x∈a↔x∈b)→a=b
 | [],[],_,_,_=>rfl
 | [],y::b,_,_,h=>by have:=(h y).2 (by simp); simp at this
 | x::a,[],_,_,h=>by have:=(h x).1 (by simp); simp at this
 | x :: a,y::b,ha,hb,h=>by
   rw [List.pairwise_cons] at ha hb
   have hxy:x=y:=by
    rcases List.mem_cons.1 ((h x).1 (by simp)) with e | h1
    · exact e
    · rcases List.mem_cons.1 ((h y).2 (by simp)) with e | h2
      · exact e.symm
      · have h3:=Kc (hb.1 x h1) (ha.1 y h2)
        rw [OI] at h3; cases h3
   subst hxy
   rw [NN ha.2 hb.2 fun z=>?_]
   have hz:=h z
   constructor
   · intro hm
     rcases List.mem_cons.1 (hz.1 (by simp [hm])) with rfl | h1
     · have:=ha.1 z hm
       rw [OI] at this; cases this
     · exact h1
   · intro hm
     rcases List.mem_cons.1 (hz.2 (by simp [hm])) with rfl | h1
     · have:=hb.1 z hm
       rw [OI] at this; cases this
     · exact h1
theorem putT {L:List (List Nat)} {x:List Nat} {a:Nat} (hs:L.Pairwise fun x y=>ltN x y=true) (ha:a≤L.length) (h1:∀ j y,a≤j→L[j]? = some y→ltN x y=true) (h2:a=0∨∃ y,L[a - 1]? = some y∧ltN y x=true):(L.take a++([x]++L.drop a)).Pairwise (fun x y=>ltN x y=true)∧∀ y,y∈L.take a++([x]++L.drop a)↔y∈L∨y=x:=by
 constructor
 · have hd:∀ z∈L.drop a,ltN x z=true:=fun z hz=>by
    obtain ⟨j,hj,rfl⟩:=List.mem_iff_getElem.1 hz
    rw [List.getElem_drop]
    rw [List.length_drop] at hj
    exact h1 (a+j) _ (by omega) (List.getElem?_eq_getElem (by omega))
   have ht:∀ y∈L.take a,ltN y x=true:=fun y hy=>by
    rcases h2 with rfl | ⟨w,hw,hwx⟩
    · simp at hy
    · obtain ⟨j,hj,rfl⟩:=List.mem_iff_getElem.1 hy
      rw [List.length_take] at hj
      rw [List.getElem_take]
      obtain ⟨hlt,hwe⟩:=List.getElem?_eq_some_iff.1 hw
      by_cases hja:j=a - 1
      · subst hja; rw [hwe]; exact hwx
      · have:=List.pairwise_iff_getElem.1 hs j (a - 1) (by omega) hlt (by omega)
        rw [hwe] at this
        exact Kc this hwx
   rw [List.pairwise_append]
   refine ⟨hs.sublist (List.take_sublist a L),?_,fun y hy z hz=>?_⟩
   · rw [List.singleton_append,List.pairwise_cons]
     exact ⟨hd,hs.sublist (List.drop_sublist a L)⟩
   · rcases List.mem_append.1 hz with hz | hz
     · rw [List.mem_singleton.1 hz]; exact ht y hy
     · exact Kc (ht y hy) (hd z hz)
 · intro y
   have:L=L.take a++L.drop a:=(List.take_append_drop a L).symm
   conv=>rhs; rw [this]
   simp only [List.mem_append,List.mem_singleton]
   constructor
   · rintro (h | h | h)
     · exact .inl (.inl h)
     · exact .inr h
     · exact .inl (.inr h)
   · rintro ((h | h) | h)
     · exact .inl h
     · exact .inr (.inr h)
     · exact .inr (.inl h)
theorem V2 {t0:Nat} {s:St} {r:RA} (h:RowH t0 s r) (q:St):lenA q 1 r.a=some (.i .i64 (r.xs.length:Nat)):=by
 rcases h with (⟨h,h2⟩ | ⟨h,h2⟩ | h | h) | ⟨k,v,t,h,_⟩<;>rw [h]<;>(try rw [h2])<;>rfl
theorem OK {L:List (List Nat)} {i:Nat} {x:List Nat} (h:L[i]? = some x):(L.map AV.s)[i]? = some (.s x):=by rw [List.getElem?_map,h]; rfl
theorem YR {s q:St} {n:En} {a:AV} {L M:List (List Nat)} {fr:Bool} (H:Hp s q n [⟨1,9,a,L.map .s,fr⟩] []) (hL:L.length < 2^37) {i:Nat} {x:List Nat} (hx:M[i]? = some x)
    {e:Tr} {Q:Ex→Tr→St→Prop} (h0:e.get 0=tx M) (h3:e.get 3=a) (h4:e.get 4=.i .i64 (i:Nat)) (h5:e.get 5=.i .i64 (L.length:Nat))
    (k:∀ (e':Tr) (b:Nat),e'.get 0=tx M→e'.get 3=a→e'.get 4=.i .i64 (i:Nat)→e'.get 5=.i .i64 (b:Nat)→b≤L.length→(∀ j y,b≤j→L[j]? = some y→ltN x y=true)→(b=0∨∃ y,L[b - 1]? = some y∧ltN x y=false)→Q (.x 2) e' q) :
    W (lim prog) (subC Ah.body [1,1,0,1,0,0,1,0,0,1,0,0]) e q Q:=by
 have hx2:=OK hx
 simp only [Ah,subC,go_sem,AD,AA,AC,AB,KB_n,KB_x,Nat.reduceBEq,Nat.reduceAdd,Nat.reduceLT,Nat.reduceLeDiff,Nat.reduceEqDiff,reduceIte,Int.reduceEq,reduceCtorEq]
 refine BP (fun y e q'=>∃ b:Nat,b=y∧b≤L.length∧q'=q∧(∀ j z,b≤j→L[j]? = some z→ltN x z=true)∧e.get 0=tx M∧e.get 3=a∧e.get 4=.i .i64 (i:Nat)∧e.get 5=.i .i64 (b:Nat)) ?_ L.length _ _ ?_
 · clear h0 h3 h4 h5
   rintro y e q' ⟨b,rfl,hbl,rfl,hgt,g0,g3,g4,g5⟩
   by_cases hb:b=0
   · subst hb
     have e1:((0:Int) < ((0:Nat):Int))=False:=by simp
     simp only [go_sem,AD,AA,AC,AB,KB_n,KB_x,Nat.reduceBEq,Nat.reduceAdd,Nat.reduceLT,Nat.reduceLeDiff,Nat.reduceEqDiff,reduceIte,Int.reduceEq,reduceCtorEq,g0,g3,g4,g5,e1]
     refine k _ 0 ?_ ?_ ?_ ?_ hbl hgt (.inl rfl)<;>simp only [go_sem,AD,AA,AC,AB,KB_n,KB_x,Nat.reduceBEq,Nat.reduceAdd,Nat.reduceLT,Nat.reduceLeDiff,Nat.reduceEqDiff,reduceIte,Int.reduceEq,reduceCtorEq,g0,g3,g4,g5]
   · have e1:((0:Int) < (b:Int))=True:=eq_true (by omega)
     have hsb:IntKind.i64.wrap ((b:Int) - 1)=((b - 1:Nat):Int):=by
      rw [show (b:Int) - 1=((b - 1:Nat):Int) by omega]; exact GO (by omega)
     obtain ⟨z,hz⟩:∃ z,L[b - 1]? = some z:=⟨_,List.getElem?_eq_getElem (by omega)⟩
     have hz2:=OK hz
     have hgt':=gtr_lt z x
     rcases H.rows (i:=0) rfl with (⟨hh,h2⟩ | ⟨hh,h2⟩ | hh | hh) | ⟨kk,v,t,hh,k1,k2,k3,k4,k5,k6,k7⟩
     · simp at h2; subst h2; simp at hz
     · simp at h2; subst h2; simp at hz
     · simp only at hh
       have lr:ldA q' false 1 (.ep [AV.s z] 0 .full)=some (.s z):=rfl
       rw [hh] at g3
       cases hxz:ltN x z with
       | true =>
         rw [hxz] at hgt'
         simp only [go_sem,AD,AA,AC,AB,KB_n,KB_x,Nat.reduceBEq,Nat.reduceAdd,Nat.reduceLT,Nat.reduceLeDiff,Nat.reduceEqDiff,reduceIte,Int.reduceEq,reduceCtorEq,g0,g3,g4,g5,e1,hsb,AG,hz2,hx2,Dl,lr,IA,hgt']
         refine ⟨b - 1,by omega,b - 1,rfl,by omega,fun j w hj hw=>?_,hh.symm,rfl⟩
         by_cases hjb:j=b - 1
         · subst hjb
           rw [hz] at hw; cases hw; exact hxz
         · exact hgt j w (by omega) hw
       | false =>
         rw [hxz] at hgt'
         simp only [go_sem,AD,AA,AC,AB,KB_n,KB_x,Nat.reduceBEq,Nat.reduceAdd,Nat.reduceLT,Nat.reduceLeDiff,Nat.reduceEqDiff,reduceIte,Int.reduceEq,reduceCtorEq,g0,g3,g4,g5,e1,hsb,AG,hz2,hx2,Dl,lr,IA,hgt']
         refine k _ b ?_ ?_ ?_ ?_ hbl hgt (.inr ⟨z,hz,hxz⟩)<;>simp only [go_sem,AD,AA,AC,AB,KB_n,KB_x,Nat.reduceBEq,Nat.reduceAdd,Nat.reduceLT,Nat.reduceLeDiff,Nat.reduceEqDiff,reduceIte,Int.reduceEq,reduceCtorEq,g0,g3,g4,g5,hh]
     · simp only at hh
       have lr:ldA q' false 1 (.ep [AV.s z] 0 .shut)=some (.s z):=rfl
       rw [hh] at g3
       cases hxz:ltN x z with
       | true =>
         rw [hxz] at hgt'
         simp only [go_sem,AD,AA,AC,AB,KB_n,KB_x,Nat.reduceBEq,Nat.reduceAdd,Nat.reduceLT,Nat.reduceLeDiff,Nat.reduceEqDiff,reduceIte,Int.reduceEq,reduceCtorEq,g0,g3,g4,g5,e1,hsb,AG,hz2,hx2,Dl,lr,IA,hgt']
         refine ⟨b - 1,by omega,b - 1,rfl,by omega,fun j w hj hw=>?_,hh.symm,rfl⟩
         by_cases hjb:j=b - 1
         · subst hjb
           rw [hz] at hw; cases hw; exact hxz
         · exact hgt j w (by omega) hw
       | false =>
         rw [hxz] at hgt'
         simp only [go_sem,AD,AA,AC,AB,KB_n,KB_x,Nat.reduceBEq,Nat.reduceAdd,Nat.reduceLT,Nat.reduceLeDiff,Nat.reduceEqDiff,reduceIte,Int.reduceEq,reduceCtorEq,g0,g3,g4,g5,e1,hsb,AG,hz2,hx2,Dl,lr,IA,hgt']
         refine k _ b ?_ ?_ ?_ ?_ hbl hgt (.inr ⟨z,hz,hxz⟩)<;>simp only [go_sem,AD,AA,AC,AB,KB_n,KB_x,Nat.reduceBEq,Nat.reduceAdd,Nat.reduceLT,Nat.reduceLeDiff,Nat.reduceEqDiff,reduceIte,Int.reduceEq,reduceCtorEq,g0,g3,g4,g5,hh]
     · simp only at hh
       have lr:ldA q' false 1 (.ep [AV.s z] 0 (.tok kk v))=some (.s z):=by simp [ldA,St.ok,k3,k4,cut,scal]
       rw [hh] at g3
       cases hxz:ltN x z with
       | true =>
         rw [hxz] at hgt'
         simp only [go_sem,AD,AA,AC,AB,KB_n,KB_x,Nat.reduceBEq,Nat.reduceAdd,Nat.reduceLT,Nat.reduceLeDiff,Nat.reduceEqDiff,reduceIte,Int.reduceEq,reduceCtorEq,g0,g3,g4,g5,e1,hsb,AG,hz2,hx2,Dl,lr,IA,hgt']
         refine ⟨b - 1,by omega,b - 1,rfl,by omega,fun j w hj hw=>?_,hh.symm,rfl⟩
         by_cases hjb:j=b - 1
         · subst hjb
           rw [hz] at hw; cases hw; exact hxz
         · exact hgt j w (by omega) hw
       | false =>
         rw [hxz] at hgt'
         simp only [go_sem,AD,AA,AC,AB,KB_n,KB_x,Nat.reduceBEq,Nat.reduceAdd,Nat.reduceLT,Nat.reduceLeDiff,Nat.reduceEqDiff,reduceIte,Int.reduceEq,reduceCtorEq,g0,g3,g4,g5,e1,hsb,AG,hz2,hx2,Dl,lr,IA,hgt']
         refine k _ b ?_ ?_ ?_ ?_ hbl hgt (.inr ⟨z,hz,hxz⟩)<;>simp only [go_sem,AD,AA,AC,AB,KB_n,KB_x,Nat.reduceBEq,Nat.reduceAdd,Nat.reduceLT,Nat.reduceLeDiff,Nat.reduceEqDiff,reduceIte,Int.reduceEq,reduceCtorEq,g0,g3,g4,g5,hh]
 · simp only [go_sem,AD,AA,AC,AB,KB_n,KB_x,Nat.reduceBEq,Nat.reduceAdd,Nat.reduceLT,Nat.reduceLeDiff,Nat.reduceEqDiff,reduceIte,Int.reduceEq,reduceCtorEq]
   refine ⟨L.length,rfl,Nat.le_refl _,fun j z hj hz=>?_,h0,h3,h4,h5⟩
   rw [List.getElem?_eq_none hj] at hz
   cases hz
theorem YS {s q:St} {n:En} {a:AV} {L M:List (List Nat)} {fr:Bool} (H:Hp s q n [⟨1,9,a,L.map .s,fr⟩] []) (hL:L.length < 2^37) {i b:Nat} {x:List Nat} (hx:M[i]? = some x) (hbl:b≤L.length)
    {e:Tr} {Q:Ex→Tr→St→Prop} (h0:e.get 0=tx M) (h3:e.get 3=a) (h4:e.get 4=.i .i64 (i:Nat)) (h5:e.get 5=.i .i64 (b:Nat)) (hle:b=0∨∃ y,L[b - 1]? = some y∧ltN x y=false)
    (k1:∀ (e':Tr) {z:List Nat},L[b - 1]? = some z→z=x→e'.get 0=tx M→e'.get 3=a→e'.get 4=.i .i64 (i:Nat)→Q (.x 1) e' q)
    (k2:∀ (e':Tr),(b=0∨∃ y,L[b - 1]? = some y∧ltN y x=true)→e'.get 0=tx M→e'.get 3=a→e'.get 4=.i .i64 (i:Nat)→e'.get 5=.i .i64 (b:Nat)→Q .n e' q) :
    W (lim prog) (subC Ah.body [1,1,0,1,0,0,1,0,0,1,1,0]) e q Q:=by
 have hx2:=OK hx
 simp only [Ah,subC]
 by_cases hb:b=0
 · subst hb
   have e1:((0:Int) < ((0:Nat):Int))=False:=by simp
   simp only [go_sem,AD,AA,AC,AB,KB_n,KB_x,Nat.reduceBEq,Nat.reduceAdd,Nat.reduceLT,Nat.reduceLeDiff,Nat.reduceEqDiff,reduceIte,Int.reduceEq,reduceCtorEq,h0,h3,h4,h5,e1]
   refine k2 _ (.inl rfl) ?_ ?_ ?_ ?_<;>simp only [go_sem,AD,AA,AC,AB,KB_n,KB_x,Nat.reduceBEq,Nat.reduceAdd,Nat.reduceLT,Nat.reduceLeDiff,Nat.reduceEqDiff,reduceIte,Int.reduceEq,reduceCtorEq,h0,h3,h4,h5]
 · have e1:((0:Int) < (b:Int))=True:=eq_true (by omega)
   have hsb:IntKind.i64.wrap ((b:Int) - 1)=((b - 1:Nat):Int):=by
    rw [show (b:Int) - 1=((b - 1:Nat):Int) by omega]; exact GO (by omega)
   obtain ⟨z,hz,hzz⟩:∃ z,L[b - 1]? = some z∧ltN x z=false:=by
    rcases hle with h | h
    · exact absurd h hb
    · exact h
   have hz2:=OK hz
   rcases H.rows (i:=0) rfl with (⟨hh,h2⟩ | ⟨hh,h2⟩ | hh | hh) | ⟨kk,v,t,hh,j1,j2,j3,j4,j5,j6,j7⟩
   · simp at h2; subst h2; simp at hz
   · simp at h2; subst h2; simp at hz
   · simp only at hh
     have lr:ldA q false 1 (.ep [AV.s z] 0 .full)=some (.s z):=rfl
     rw [hh] at h3
     by_cases hzx:z=x
     · have e2:(z=x)=True:=eq_true hzx
       simp only [go_sem,AD,AA,AC,AB,KB_n,KB_x,Nat.reduceBEq,Nat.reduceAdd,Nat.reduceLT,Nat.reduceLeDiff,Nat.reduceEqDiff,reduceIte,Int.reduceEq,reduceCtorEq,h0,h3,h4,h5,e1,hsb,AG,hz2,hx2,Dl,lr,IA,e2]
       exact k1 _ hz hzx (by simp only [go_sem,AD,AA,AC,AB,KB_n,KB_x,Nat.reduceBEq,Nat.reduceAdd,Nat.reduceLT,Nat.reduceLeDiff,Nat.reduceEqDiff,reduceIte,Int.reduceEq,reduceCtorEq,h0]) (by simp only [go_sem,AD,AA,AC,AB,KB_n,KB_x,Nat.reduceBEq,Nat.reduceAdd,Nat.reduceLT,Nat.reduceLeDiff,Nat.reduceEqDiff,reduceIte,Int.reduceEq,reduceCtorEq,h3,hh]) (by simp only [go_sem,AD,AA,AC,AB,KB_n,KB_x,Nat.reduceBEq,Nat.reduceAdd,Nat.reduceLT,Nat.reduceLeDiff,Nat.reduceEqDiff,reduceIte,Int.reduceEq,reduceCtorEq,h4])
     · have e2:(z=x)=False:=eq_false hzx
       simp only [go_sem,AD,AA,AC,AB,KB_n,KB_x,Nat.reduceBEq,Nat.reduceAdd,Nat.reduceLT,Nat.reduceLeDiff,Nat.reduceEqDiff,reduceIte,Int.reduceEq,reduceCtorEq,h0,h3,h4,h5,e1,hsb,AG,hz2,hx2,Dl,lr,IA,e2]
       exact k2 _ (.inr ⟨z,hz,OJ hzz hzx⟩) (by simp only [go_sem,AD,AA,AC,AB,KB_n,KB_x,Nat.reduceBEq,Nat.reduceAdd,Nat.reduceLT,Nat.reduceLeDiff,Nat.reduceEqDiff,reduceIte,Int.reduceEq,reduceCtorEq,h0]) (by simp only [go_sem,AD,AA,AC,AB,KB_n,KB_x,Nat.reduceBEq,Nat.reduceAdd,Nat.reduceLT,Nat.reduceLeDiff,Nat.reduceEqDiff,reduceIte,Int.reduceEq,reduceCtorEq,h3,hh]) (by simp only [go_sem,AD,AA,AC,AB,KB_n,KB_x,Nat.reduceBEq,Nat.reduceAdd,Nat.reduceLT,Nat.reduceLeDiff,Nat.reduceEqDiff,reduceIte,Int.reduceEq,reduceCtorEq,h4]) (by simp only [go_sem,AD,AA,AC,AB,KB_n,KB_x,Nat.reduceBEq,Nat.reduceAdd,Nat.reduceLT,Nat.reduceLeDiff,Nat.reduceEqDiff,reduceIte,Int.reduceEq,reduceCtorEq,h5])
   · simp only at hh
     have lr:ldA q false 1 (.ep [AV.s z] 0 .shut)=some (.s z):=rfl
     rw [hh] at h3
     by_cases hzx:z=x
     · have e2:(z=x)=True:=eq_true hzx
       simp only [go_sem,AD,AA,AC,AB,KB_n,KB_x,Nat.reduceBEq,Nat.reduceAdd,Nat.reduceLT,Nat.reduceLeDiff,Nat.reduceEqDiff,reduceIte,Int.reduceEq,reduceCtorEq,h0,h3,h4,h5,e1,hsb,AG,hz2,hx2,Dl,lr,IA,e2]
       exact k1 _ hz hzx (by simp only [go_sem,AD,AA,AC,AB,KB_n,KB_x,Nat.reduceBEq,Nat.reduceAdd,Nat.reduceLT,Nat.reduceLeDiff,Nat.reduceEqDiff,reduceIte,Int.reduceEq,reduceCtorEq,h0]) (by simp only [go_sem,AD,AA,AC,AB,KB_n,KB_x,Nat.reduceBEq,Nat.reduceAdd,Nat.reduceLT,Nat.reduceLeDiff,Nat.reduceEqDiff,reduceIte,Int.reduceEq,reduceCtorEq,h3,hh]) (by simp only [go_sem,AD,AA,AC,AB,KB_n,KB_x,Nat.reduceBEq,Nat.reduceAdd,Nat.reduceLT,Nat.reduceLeDiff,Nat.reduceEqDiff,reduceIte,Int.reduceEq,reduceCtorEq,h4])
     · have e2:(z=x)=False:=eq_false hzx
       simp only [go_sem,AD,AA,AC,AB,KB_n,KB_x,Nat.reduceBEq,Nat.reduceAdd,Nat.reduceLT,Nat.reduceLeDiff,Nat.reduceEqDiff,reduceIte,Int.reduceEq,reduceCtorEq,h0,h3,h4,h5,e1,hsb,AG,hz2,hx2,Dl,lr,IA,e2]
       exact k2 _ (.inr ⟨z,hz,OJ hzz hzx⟩) (by simp only [go_sem,AD,AA,AC,AB,KB_n,KB_x,Nat.reduceBEq,Nat.reduceAdd,Nat.reduceLT,Nat.reduceLeDiff,Nat.reduceEqDiff,reduceIte,Int.reduceEq,reduceCtorEq,h0]) (by simp only [go_sem,AD,AA,AC,AB,KB_n,KB_x,Nat.reduceBEq,Nat.reduceAdd,Nat.reduceLT,Nat.reduceLeDiff,Nat.reduceEqDiff,reduceIte,Int.reduceEq,reduceCtorEq,h3,hh]) (by simp only [go_sem,AD,AA,AC,AB,KB_n,KB_x,Nat.reduceBEq,Nat.reduceAdd,Nat.reduceLT,Nat.reduceLeDiff,Nat.reduceEqDiff,reduceIte,Int.reduceEq,reduceCtorEq,h4]) (by simp only [go_sem,AD,AA,AC,AB,KB_n,KB_x,Nat.reduceBEq,Nat.reduceAdd,Nat.reduceLT,Nat.reduceLeDiff,Nat.reduceEqDiff,reduceIte,Int.reduceEq,reduceCtorEq,h5])
   · simp only at hh
     have lr:ldA q false 1 (.ep [AV.s z] 0 (.tok kk v))=some (.s z):=by simp [ldA,St.ok,j3,j4,cut,scal]
     rw [hh] at h3
     by_cases hzx:z=x
     · have e2:(z=x)=True:=eq_true hzx
       simp only [go_sem,AD,AA,AC,AB,KB_n,KB_x,Nat.reduceBEq,Nat.reduceAdd,Nat.reduceLT,Nat.reduceLeDiff,Nat.reduceEqDiff,reduceIte,Int.reduceEq,reduceCtorEq,h0,h3,h4,h5,e1,hsb,AG,hz2,hx2,Dl,lr,IA,e2]
       exact k1 _ hz hzx (by simp only [go_sem,AD,AA,AC,AB,KB_n,KB_x,Nat.reduceBEq,Nat.reduceAdd,Nat.reduceLT,Nat.reduceLeDiff,Nat.reduceEqDiff,reduceIte,Int.reduceEq,reduceCtorEq,h0]) (by simp only [go_sem,AD,AA,AC,AB,KB_n,KB_x,Nat.reduceBEq,Nat.reduceAdd,Nat.reduceLT,Nat.reduceLeDiff,Nat.reduceEqDiff,reduceIte,Int.reduceEq,reduceCtorEq,h3,hh]) (by simp only [go_sem,AD,AA,AC,AB,KB_n,KB_x,Nat.reduceBEq,Nat.reduceAdd,Nat.reduceLT,Nat.reduceLeDiff,Nat.reduceEqDiff,reduceIte,Int.reduceEq,reduceCtorEq,h4])
     · have e2:(z=x)=False:=eq_false hzx
       simp only [go_sem,AD,AA,AC,AB,KB_n,KB_x,Nat.reduceBEq,Nat.reduceAdd,Nat.reduceLT,Nat.reduceLeDiff,Nat.reduceEqDiff,reduceIte,Int.reduceEq,reduceCtorEq,h0,h3,h4,h5,e1,hsb,AG,hz2,hx2,Dl,lr,IA,e2]
       exact k2 _ (.inr ⟨z,hz,OJ hzz hzx⟩) (by simp only [go_sem,AD,AA,AC,AB,KB_n,KB_x,Nat.reduceBEq,Nat.reduceAdd,Nat.reduceLT,Nat.reduceLeDiff,Nat.reduceEqDiff,reduceIte,Int.reduceEq,reduceCtorEq,h0]) (by simp only [go_sem,AD,AA,AC,AB,KB_n,KB_x,Nat.reduceBEq,Nat.reduceAdd,Nat.reduceLT,Nat.reduceLeDiff,Nat.reduceEqDiff,reduceIte,Int.reduceEq,reduceCtorEq,h3,hh]) (by simp only [go_sem,AD,AA,AC,AB,KB_n,KB_x,Nat.reduceBEq,Nat.reduceAdd,Nat.reduceLT,Nat.reduceLeDiff,Nat.reduceEqDiff,reduceIte,Int.reduceEq,reduceCtorEq,h4]) (by simp only [go_sem,AD,AA,AC,AB,KB_n,KB_x,Nat.reduceBEq,Nat.reduceAdd,Nat.reduceLT,Nat.reduceLeDiff,Nat.reduceEqDiff,reduceIte,Int.reduceEq,reduceCtorEq,h5])
end Go.Proofs.YtmnbfgfgjmmhfaaGreatDoor

namespace Go.Proofs.YtmnbfgfgjmmhfaaGreatDoor
open Go.Proofs.YtmnbfgfgjmmhfaaGreatDoor.Am
attribute [local irreducible] W WO WE WQ WD Tr.get Tr.set
theorem ovB {s q:St} (h:Over s q) (hw:Wf q) (hws:Wf s) {i:Nat} (hi:i < s.nb):q.box? i=s.box? i:=by
 have h1:=h.boxes
 have h2:=h.nb
 rw [box?_eq (by omega),box?_eq hi]
 conv=>rhs; rw [← h1,List.getElem?_drop]
 congr 1; omega
theorem V3 {s q:St} (h:Over s q) (hw:Wf q) (hws:Wf s) {k:Nat} (hk:k < s.nt):q.tok? k=s.tok? k:=by
 have h1:=h.toks
 have h2:=h.nt
 rw [tok?_eq (by omega),tok?_eq hk]
 conv=>rhs; rw [← h1,List.getElem?_drop]
 congr 2; omega
section
variable {s0 s q:St} {n:En} {R:List RA} {B:List (Nat×Box)}
theorem _root_.Go.Proofs.YtmnbfgfgjmmhfaaGreatDoor.Am.Hp.kept (H:Hp s0 s n R B) (ov:Over s q) (hw:Wf q):Hp s0 { q with lo:=min s.lo q.lo } n R B where
 wf:=hw.lo _
 over:=(Up.of ov hw).over s0 H.over
 lo:=by have:=H.lo; simp only; omega
 nb:=by have:=H.nb; have:=ov.nb; simp only; omega
 nt:=by have:=H.nt; have:=ov.nt; simp only; omega
 rows:=fun hr=>(H.rows hr).mono ov.nt fun k hk=>V3 ov hw H.wf ((H.rows hr).tok_lt hk)
 apart:=H.apart
 box:=fun {i p} hp=>by
  obtain ⟨h1,h2,h3⟩:=H.box hp
  refine ⟨?_,h2,by have:=ov.nb; simp only; omega⟩
  show q.box? p.1=_
  rw [ovB ov hw H.wf h3]; exact h1
 bapart:=H.bapart
theorem _root_.Go.Proofs.YtmnbfgfgjmmhfaaGreatDoor.Am.Hp.addB (H:Hp s0 s n R B) {id:Nat} {X:Box} (hb:s.box? id=some X) (h0:s0.nb≤id) (h1:id < s.nb) (hn:∀ p∈B,p.1≠id):Hp s0 s n R ((id,X)::B) where
 wf:=H.wf
 over:=H.over
 lo:=H.lo
 nb:=H.nb
 nt:=H.nt
 rows:=H.rows
 apart:=H.apart
 box:=fun {i p} hp=>by
  cases i with
  | zero=>simp only [List.getElem?_cons_zero,Option.some.injEq] at hp; subst hp; exact ⟨hb,h0,h1⟩
  | succ i=>exact H.box (i:=i) (by simpa using hp)
 bapart:=fun {i j p r} hne h1 h2=>by
  cases i with
  | zero=>cases j with
    | zero=>exact absurd rfl hne
    | succ j =>
      simp only [List.getElem?_cons_zero,Option.some.injEq] at h1; subst h1
      exact (hn r (List.mem_of_getElem? (by simpa using h2))).symm
  | succ i=>cases j with
    | zero =>
      simp only [List.getElem?_cons_zero,Option.some.injEq] at h2; subst h2
      exact hn p (List.mem_of_getElem? (by simpa using h1))
    | succ j=>exact H.bapart (i:=i) (j:=j) (by omega) (by simpa using h1) (by simpa using h2)
def RowK (v:AV) (L:List (List Nat)) (p:List (Nat×Box)):Prop:=(v=.nsl∧L=[]∧p=[])∨∃ id Z,v=.bl id 1 0 L.length (L.length+Z.length,false)∧p=[(id,.row 9 ((L++Z).map .s) false 0)]
theorem _root_.Go.Proofs.YtmnbfgfgjmmhfaaGreatDoor.Am.Hp.keptT (H:Hp s0 s n R B) {s':St} {v:AV} {L:List (List Nat)} (h:OH s s' v L):∃ p,RowK v L p∧Hp s0 s' n R (p++B)∧s.nb≤s'.nb:=by
 obtain ⟨q,ov,hw,rfl,h⟩:=h
 have K:=H.kept ov hw
 rcases h with ⟨rfl,rfl⟩ | ⟨id,Z,rfl,hb,h1,h2⟩
 · exact ⟨[],.inl ⟨rfl,rfl,rfl⟩,K,ov.nb⟩
 · refine ⟨[(id,_)],.inr ⟨id,Z,rfl,rfl⟩,K.addB hb (by have:=H.over.nb; omega) h2 (fun p hp=>?_),ov.nb⟩
   obtain ⟨i,hi,rfl⟩:=List.mem_iff_getElem.1 hp
   have:=(H.box (List.getElem?_eq_getElem hi)).2.2
   omega
end
theorem OH.up {s0 s s':St} {v:AV} {L:List (List Nat)} (h:Over s0 s) (hk:OH s s' v L):OH s0 { s' with lo:=min s0.lo s'.lo } v L:=by
 obtain ⟨q,ov,hw,rfl,hr⟩:=hk
 have hlo:s0.nb≤min s.lo q.lo:=by have:=h.lo; have:=ov.lo; have:=h.nb; omega
 refine ⟨{ q with lo:=min s.lo q.lo },?_,hw.lo _,rfl,?_⟩
 · have:=M9 h ov (by omega)
   exact ⟨this.nb,this.boxes,this.nt,this.toks,hlo⟩
 · rcases hr with hr | ⟨id,Z,h1,h2,h3,h4⟩
   · exact .inl hr
   · exact .inr ⟨id,Z,h1,h2,by have:=h.nb; omega,h4⟩
def UI (n:IN):List (List Nat):=LJ ((allL n 0).flatMap fun x=>Cv x.2.items)
def YT (n:IN):List (List Nat):=LJ ((allL n 0).flatMap fun x=>setsX x.2)
theorem YU (n:IN) (ho:n.Ok) (hb:nodesI n < 2^61) (hF:∀ x∈allL n 0,∀ q,Wf q→(lim prog).call FI [.agg x.2.cells] q=some (tx (Cv x.2.items),q)) (hsz:((allL n 0).flatMap fun x=>Cv x.2.items).length < 2^36) (s:St) (hw:Wf s) :
    ∃ v s',(lim prog).call JG [.agg n.cells] s=some (v,s')∧OH s s' v (UI n):=by
 refine fn_K SN rfl rfl rfl (by rfl) ?_
 have hz0:wkZ E7.cin [.agg n.cells]=[.agg n.cells]:=by simp [E7,wkZ,wk,IN.cells,itx]
 rw [hz0]
 have e0:s.enter.nb=s.nb:=rfl
 have H1:=(Hp.begin hw).new (.cells 25 n.cells)
 obtain ⟨q1,hq1⟩:∃ q1,s.enter.new (.cells 25 n.cells)=q1:=⟨_,rfl⟩
 rw [hq1,e0] at H1
 have lw:=H1.ldw (m:=4) 0 rfl rfl
 obtain ⟨v,q2,d2,k2⟩:=Ra n ho hb (fun i=>Cv i.items) FI hF hsz q1 H1.wf
 simp only [E7,go_sem,AD,AA,AC,AB,KB_n,KB_x,Nat.reduceBEq,Nat.reduceAdd,Nat.reduceLT,Nat.reduceLeDiff,Nat.reduceEqDiff,reduceIte,Int.reduceEq,reduceCtorEq,nc4,List.length_cons,List.length_nil,hq1,e0,lw,DS,d2]
 exact k2.up H1.over
theorem sets_K (n:IN) (ho:n.Ok) (hb:nodesI n < 2^61) (hF:∀ x∈allL n 0,∀ q,Wf q→(lim prog).call Fy [.agg x.2.cells] q=some (tx (setsX x.2),q)) (hsz:((allL n 0).flatMap fun x=>setsX x.2).length < 2^36) (s:St) (hw:Wf s) :
    ∃ v s',(lim prog).call KX [.agg n.cells] s=some (v,s')∧OH s s' v (YT n):=by
 refine fn_K T7 rfl rfl rfl (by rfl) ?_
 have hz0:wkZ F1.cin [.agg n.cells]=[.agg n.cells]:=by simp [F1,wkZ,wk,IN.cells,itx]
 rw [hz0]
 have e0:s.enter.nb=s.nb:=rfl
 have H1:=(Hp.begin hw).new (.cells 25 n.cells)
 obtain ⟨q1,hq1⟩:∃ q1,s.enter.new (.cells 25 n.cells)=q1:=⟨_,rfl⟩
 rw [hq1,e0] at H1
 have lw:=H1.ldw (m:=4) 0 rfl rfl
 obtain ⟨v,q2,d2,k2⟩:=Ra n ho hb setsX Fy hF hsz q1 H1.wf
 simp only [F1,go_sem,AD,AA,AC,AB,KB_n,KB_x,Nat.reduceBEq,Nat.reduceAdd,Nat.reduceLT,Nat.reduceLeDiff,Nat.reduceEqDiff,reduceIte,Int.reduceEq,reduceCtorEq,nc4,List.length_cons,List.length_nil,hq1,e0,lw,DS,d2]
 exact k2.up H1.over
end Go.Proofs.YtmnbfgfgjmmhfaaGreatDoor

set_option maxHeartbeats 8000000
namespace Go.Proofs.YtmnbfgfgjmmhfaaGreatDoor
open Go.Proofs.YtmnbfgfgjmmhfaaGreatDoor.Am
attribute [local irreducible] W WO WE WQ WD Tr.get Tr.set
def Yn (σ:Self) (e:Tr) (tr:List St) (op:AOp) (v:AV):List Nat→Prop
 | []=>True
 | k::ks=>(∃ q s',tr[k]? = some q∧DI e q op=true∧evOp σ e q op=some (v,s'))∧Yn σ e tr op v ks
theorem Ph {σ:Self} {e:Tr} {tr:List St} {op:AOp} {v:AV}:∀ {ks:List Nat},Yn σ e tr op v ks→∀ k∈ks,∃ q s',tr[k]? = some q∧DI e q op=true∧evOp σ e q op=some (v,s')
 | k::ks,h,j,hj=>by
   rcases List.mem_cons.1 hj with rfl | hj
   · exact h.1
   · exact Ph h.2 j hj
theorem KW_op {σ:Self} {e:Tr} {s:St} {Q:Ex→Tr→St→Prop} {ops:List Am.Op} {tr:List St} {l:List (Nat×Nat×Nat)} {i lo hi:Nat} {d:Option Nat} {op:AOp} {v:AV} {g:Option (Nat×Bool)} (ho:ops[i]? = some ⟨d,op,g⟩) (hb:beqA v v=true)
    (h:Yn σ e tr op v (i::List.range' lo (hi+1 - lo))) (h2:KW σ ops l Q tr e s):KW σ ops ((i,lo,hi)::l) Q tr e s:=by
 refine ⟨?_,h2.2⟩
 obtain ⟨⟨q,s',h3,_,h4⟩,h5⟩:=h
 simp only [chkS,Bool.and_eq_true,ho,h3]
 refine ⟨?_,h2.1⟩
 simp only [h4,Bool.or_eq_true,List.all_eq_true]
 refine .inr fun k hk=>?_
 obtain ⟨q',s2,h6,h7,h8⟩:=Ph h5 k hk
 simp only [Vt,h6,h7,h8,hb,Bool.and_self]
theorem Uk {a:AV} {L:List (List Nat)} (h:EY 1 a (L.map .s)) (hne:L≠[]):Q7 a=some L:=by
 have hn:L.map AV.s≠[]:=by simpa using hne
 rcases h with ⟨_,h⟩ | ⟨_,h⟩ | h | h | h | h
 · exact absurd h hn
 · exact absurd h hn
 · rw [h]; exact Ia L
 · rw [h]; exact Ia L
 · rw [h]; exact Ia L
 · rw [h]; exact Ia L
theorem WP {b1 b2 b3 b4 b5 b6 b7 b8:Nat} {r:Rule} {f:AV} (h:KidF (BLs b1 b2 b3 b4 b5 b6 b7 b8) f r.kids):beqA (rlV r.word r.named r.least r.most f) (rlV r.word r.named r.least r.most f)=true:=by
 rcases h with ⟨rfl,_⟩ | ⟨_,b,_,_,_,rfl,_⟩<;>simp [rlV,beqA,Ey,Gq]
abbrev wA:C:=subC C8.body [1,1,1,1,0,1,0,0]
abbrev wC:C:=subC C8.body [1,1,1,1,0,1,0,1]
theorem cut_rl (w:List Nat) (nm:Bool) (lo hi:Int) (f:AV):cut [.s w,.b nm,.i .i64 lo,.i .i64 hi,f] 0 1=some [.s w]:=rfl
theorem Yo (x:Nat×IN) {r:Rule} (hr:ruleK x.2.kind=some r):joinN [32] ((List.replicate x.1 32++r.word)::((if x.2.name=[] then [] else [x.2.name])++x.2.items.map DQ))=DJ x:=by
 unfold DJ Rb
 rw [hr,Ir,Ir,List.append_assoc]
theorem WR {s q:St} {n:En} {a w:AV} {ob nx i:Nat} {W0 xs:List (List Nat)} {B:List (Nat×Box)} {x:IN} (H:Hp s q n [⟨1,9,w,W0.map .s,true⟩,⟨1,9,a,xs.map .s,true⟩] ((ob,.cells 26 [a])::B)) (hB:B[i]? = some (nx,.cells 25 x.cells)) (hxo:x.Ok)
    (hxi:∀ y∈x.items,(y.parts.flatMap Bx).length < 2^59) (hne:W0≠[]) (hW:W0.length≤4) (hlen:(joinN [32] (W0++x.items.map DQ)).length≤2^47) (hsz:xs.length < 2^36) {e:Tr} {Q:Ex→Tr→St→Prop} (g5:e.get 5=.p ob 0) (g7:e.get 7=.p nx 0) (g8:e.get 8=w)
    (k:∀ (e':Tr) (q':St) (a':AV),Hp s q' n [⟨1,9,a',(xs++[joinN [32] (W0++x.items.map DQ)]).map .s,true⟩] ((ob,.cells 26 [a'])::B)→q.nb≤q'.nb→A7 a'≠none→(a'.refs=true→q'.lo≤ob)→Q .n e' q') :
    W (lim prog) (subC C8.body [1,1,1,1,0,1,0,1,0,1,1]) e q Q:=by
 have hil:=hxo.items.2
 have ldi:=H.ld (i+1) (off:=2) (v:=.ws false 2 (x.items.map IT.av)) (by simpa using hB) rfl
 simp only [C8,subC,go_sem,AD,AA,AC,AB,KB_n,KB_x,Nat.reduceBEq,Nat.reduceAdd,Nat.reduceLT,Nat.reduceLeDiff,Nat.reduceEqDiff,reduceIte,Int.reduceEq,reduceCtorEq,g7,ldi,List.length_map]
 refine BP (fun y e q'=>∃ (j:Nat) (w:AV),j+y=x.items.length∧Hp s q' n [⟨1,9,w,(W0++(x.items.take j).map DQ).map .s,true⟩,⟨1,9,a,xs.map .s,true⟩] ((ob,.cells 26 [a])::B)∧q.nb≤q'.nb∧e.get 5=.p ob 0∧e.get 8=w∧e.get 37=.ws false 2 (x.items.map IT.av)∧e.get 38=.i .i64 (x.items.length:Nat)∧e.get 39=.i .i64 (j:Nat)) ?_ x.items.length _ _ ?_
 · clear g5 g7 g8
   rintro y e q1 ⟨j,w,hjy,H,hq1,g5,g8,g37,g38,g39⟩
   by_cases h:j < x.items.length
   · have h1:((j:Int) < (x.items.length:Int))=True:=eq_true (by omega)
     obtain ⟨z,hz⟩:∃ z,x.items[j]? = some z:=⟨_,List.getElem?_eq_getElem h⟩
     have hgz:=It hz
     have hzm:=List.mem_of_getElem? hz
     have hw1:=AR (show j+1 < 2^63 by omega)
     obtain ⟨q2,d2,H2,n2⟩:=H.adp (T:=78) (m:=2) (z:=[.nsl,.b false]) (v:=.agg z.cells) rfl ⟨ic2 z,io2 z⟩
     have lz:=H2.ldw (m:=2) 0 rfl (ic2 z)
     have ht:=Yl z (hxo.items.1 z hzm) (hxi z hzm) q2 H2.wf
     have hal:Ak 1 [AV.s (DQ z)]=true:=rfl
     obtain ⟨w',q3,d3,H3,n3,_⟩:=H2.app 0 (y:=.sl 1 [.s (DQ z)] .full) (ys:=[.s (DQ z)]) rfl (by simp [elems,St.ok]) (by simp; omega)
     have hcl:(AV.agg z.cells).cells=z.cells:=rfl
     rw [hcl] at lz
     simp only [go_sem,AD,AA,AC,AB,KB_n,KB_x,Nat.reduceBEq,Nat.reduceAdd,Nat.reduceLT,Nat.reduceLeDiff,Nat.reduceEqDiff,reduceIte,Int.reduceEq,reduceCtorEq,g5,g8,g37,g38,g39,h1,AG,hgz,ild,OL,ic2,d2,lz,ht,hal,d3,hw1]
     refine ⟨y - 1,by omega,j+1,w',by omega,?_,by omega,rfl,rfl⟩
     have hD:=H3.dropB
     rw [List.take_add_one,hz]
     simp only [List.set_cons_zero] at hD
     have:(W0++(x.items.take j++(some z).toList).map DQ).map AV.s=(W0++(x.items.take j).map DQ).map .s++[.s (DQ z)]:=by simp
     rw [this]
     exact hD
   · have h1:((j:Int) < (x.items.length:Int))=False:=eq_false (by omega)
     rw [List.take_of_length_le (by omega)] at H
     obtain ⟨w',q2,d2,t2,H2,n2⟩:=H.pub 0 rfl
     have la:=H.ld 0 (off:=0) (v:=a) rfl rfl
     have la2:=H2.ld 0 (off:=0) (v:=a) rfl rfl
     have hLL:W0.length+x.items.length≤2^47:=by omega
     have hj:(lim prog).call GV [w',.s [32]] q2=some (.s (joinN [32] (W0++x.items.map DQ)),q2):=by
      refine KP M0 rfl ?_
      simp only [J5,Uk t2 (by simp [hne])]
      rw [if_pos ⟨by simp; omega,hlen⟩]
     have hal:Ak 1 [AV.s (joinN [32] (W0++x.items.map DQ))]=true:=rfl
     have ha:=H.rows (i:=1) rfl
     have hlr:∀ u,ldR u (some a)=some (a,u):=fun u=>by
      rcases ha with (⟨h,_⟩ | ⟨h,_⟩ | h | h) | ⟨k,v,t,h,_⟩<;>simp only at h<;>rw [h]<;>rfl
     have hlq:ldQ (some a)=true:=by
      rcases ha with (⟨h,_⟩ | ⟨h,_⟩ | h | h) | ⟨k,v,t,h,_⟩<;>simp only at h<;>rw [h]<;>rfl
     have hsh:∀ (l:List Nat) u,U1 false u (.s l)=some (.s l,u):=fun _ _=>rfl
     obtain ⟨a',q3,d3,H3,n3,ht3⟩:=H2.app 1 (y:=.sl 1 [.s (joinN [32] (W0++x.items.map DQ))] .full) (ys:=[.s (joinN [32] (W0++x.items.map DQ))]) rfl (by simp [elems,St.ok]) (by simp; omega)
     have rc:=H3.rcells 1 rfl
     obtain ⟨q4,d4,H4,n4,lo4⟩:=H3.st 0 (off:=0) (v:=a') rfl (by simp) ⟨rc.1,rc.2.1⟩
     simp only [go_sem,AD,AA,AC,AB,KB_n,KB_x,Nat.reduceBEq,Nat.reduceAdd,Nat.reduceLT,Nat.reduceLeDiff,Nat.reduceEqDiff,reduceIte,Int.reduceEq,reduceCtorEq,g5,g8,g37,g38,g39,h1]
     refine JS rfl ?_
     simp only [go_sem,AD,AA,AC,AB,KB_n,KB_x,Nat.reduceBEq,Nat.reduceAdd,Nat.reduceLT,Nat.reduceLeDiff,Nat.reduceEqDiff,reduceIte,Int.reduceEq,reduceCtorEq,g5,g8,la,hlr,d2,hj,hsh,hal,d3,d4]
     refine ⟨hlq,Mz rfl (by simp only [go_sem,AD,AA,AC,AB,KB_n,KB_x,Nat.reduceBEq,Nat.reduceAdd,Nat.reduceLT,Nat.reduceLeDiff,Nat.reduceEqDiff,reduceIte,Int.reduceEq,reduceCtorEq,g5]) (PI ha) ⟨⟨_,rfl,la⟩,⟨_,rfl,la⟩,⟨_,rfl,la⟩,⟨_,rfl,la⟩,⟨_,rfl,la2⟩,trivial⟩ (JT ?_)⟩
     refine k _ _ a' ?_ (by omega) (ht3 (by simp)).1 lo4
     have hD:=H4.dropR
     simp only [List.set_cons_zero,List.set_cons_succ] at hD
     have:(xs++[joinN [32] (W0++x.items.map DQ)]).map AV.s=xs.map .s++[.s (joinN [32] (W0++x.items.map DQ))]:=by simp
     rw [this]
     exact hD
 · simp only [go_sem,AD,AA,AC,AB,KB_n,KB_x,Nat.reduceBEq,Nat.reduceAdd,Nat.reduceLT,Nat.reduceLeDiff,Nat.reduceEqDiff,reduceIte,Int.reduceEq,reduceCtorEq,g5,g8]
   exact ⟨0,w,by omega,by simpa using H,by omega,rfl,rfl⟩
theorem WT {s:St} {L:List (Nat×IN)} {ob mb mid b1 b2 b3 b4 b5 b6 b7 b8:Nat} {O:Nat→Prop} {k1:Nat} {e:Tr} (hx:ob < k1) (hy:mb < k1) (hz:mid < k1) (hne:ob≠mb∧ob≠mid∧mb≠mid) (hs:s.nb≤ob) (hs2:s.nb≤mb) (hs3:s.nb≤mid) (g4:e.get 4=.p mb 0) (g5:e.get 5=.p ob 0)
    (hL:∀ x∈L,x.2.Ok∧QN x.2∧x.1 < 2^30∧(∀ y∈x.2.items,(y.parts.flatMap Bx).length < 2^59)∧(DJ x).length≤2^47) (hsz:L.length < 2^36) (hO:∀ j,O j→j < k1∧j≠ob∧j≠mb∧j≠mid) (hO2:∀ j,O j→s.nb≤j) :
    BodyG prog O s (k1+1) (k1+1) (.yld k1) (alV L) (fun C j q=>q.box? k1=some (.loop 0 none e [17,18] wA wC)∧q.box? mb=some (.cells 73 [.m mid])∧q.box? mid=some (.map (ES b1 b2 b3 b4 b5 b6 b7 b8))∧RN s.nt 26 ob ((L.take j).map DJ) C q) (fun _=>False) where
 stab:=fun C j q q' hC ⟨h1,h2,h4,h3⟩ fq=>⟨by rw [fq.box _ (by omega) fun h=>by have:=(hO _ h).1; omega]; exact h1,by rw [fq.box _ (by omega) fun h=>(hO _ h).2.2.1 rfl]; exact h2,by rw [fq.box _ (by omega) fun h=>(hO _ h).2.2.2 rfl]; exact h4,h3.stab hC (by omega) (fun h=>(hO _ h).2.1 rfl) (Nat.le_refl _) fq⟩
 enter:=fun C j q _ ⟨h1,h2,h4,h3⟩ _=>⟨h1,h2,h4,h3.enter⟩
 leave:=fun C j s q v hC ⟨h1,h2,h4,h3⟩ hs hn ht hw hv=>⟨by rw [Dg hw hn (by omega)]; exact h1,by rw [Dg hw hn (by omega)]; exact h2,by rw [Dg hw hn (by omega)]; exact h4,h3.leave hC (by omega) hs hn ht hw hv⟩
 stabR:=fun q q' h _=>h.elim
 leaveR:=fun s q v h _ _ _ _ _=>h.elim
 step := by
  intro C j hj q hC ⟨hk,hmb,hmp,hrn⟩ hov hw hh
  have hj':j < L.length:=by simpa [alV] using hj
  obtain ⟨x,hx'⟩:∃ x,L[j]? = some x:=⟨_,List.getElem?_eq_getElem hj'⟩
  have hxm:=List.mem_of_getElem? hx'
  obtain ⟨hxo,hxt,hxd,hxi,hxl⟩:=hL x hxm
  have hLj:(alV L)[j]=[.i .i64 (x.1:Nat),.agg x.2.cells]:=by
   rw [List.getElem?_eq_getElem hj'] at hx'
   simp only [alV,List.getElem_map]
   rw [Option.some.inj hx']
  have htk:(L.take (j+1)).map DJ=((L.take j).map DJ)++[DJ x]:=by
   rw [List.getElem?_eq_some_iff] at hx'
   obtain ⟨_,rfl⟩:=hx'
   rw [List.take_succ_eq_append_getElem hj',List.map_append]
   rfl
  rw [hLj]
  obtain ⟨q0,st0,w0,nb0,nt0,bx0n,bx0,ov0,fr0⟩:=RI (q:=q) hw (T:=25) (m:=4) (z:=zI) (v:=.agg x.2.cells) rfl ⟨nc4 _,no4 _⟩ (OG x.2)
  obtain ⟨q1,hq1⟩:∃ q1,q0.setBox k1 (.loop 1 none e [17,18] wA wC)=q1:=⟨_,rfl⟩
  have w1:Wf q1:=by rw [← hq1]; exact w0.setBox _ _
  have nb1:q1.nb=q.nb+1∧q1.nt=q.nt:=by rw [← hq1]; exact ⟨nb0,nt0⟩
  have bx1:∀ i,q1.box? i=if i=k1 then some (.loop 1 none e [17,18] wA wC) else q0.box? i:=fun i=>by rw [← hq1]; exact setBox_box? w0.b (by omega) i
  have ov0:=ov0 s hov
  have ov1:Over s q1:=by rw [← hq1]; exact Over.setBox ov0 (by omega) (by omega) _
  have b1k:=bx1 k1
  rw [if_pos rfl] at b1k
  have fr1:Fq (fun _=>False) k1 q q1:=by
   have f3:Fq (fun _=>False) k1 q0 q1:=by rw [← hq1]; exact Fq.setBox w0 (by omega) (.inl (Nat.le_refl _)) (by omega) _
   exact (fr0 _ k1 (by omega)).trans f3
  have b1m:q1.box? mb=some (.cells 73 [.m mid]):=by rw [bx1,if_neg (by omega),bx0 _ (by omega)]; exact hmb
  have b1p:q1.box? mid=some (.map (ES b1 b2 b3 b4 b5 b6 b7 b8)):=by rw [bx1,if_neg (by omega),bx0 _ (by omega)]; exact hmp
  have hrn1:=hrn.stab (hC.weaken (by omega:k1≤k1+1)) hx (fun h=>h) (Nat.le_refl _) fr1
  obtain ⟨a,ha1,ha2,ha3,ha4⟩:=hrn1
  have b1n:q1.box? q.nb=some (.cells 25 x.2.cells):=by rw [bx1,if_neg (by omega)]; exact bx0n
  have hkO:¬ O k1:=fun h=>by have:=(hO _ h).1; omega
  obtain ⟨rest,H,hrest⟩:=TX w1 ov1 [(ob,.cells 26 [a]),(mb,.cells 73 [.m mid]),(k1,.loop 1 none e [17,18] wA wC),(q.nb,.cells 25 x.2.cells),(mid,.map (ES b1 b2 b3 b4 b5 b6 b7 b8))] (by
   intro p hp
   simp only [List.mem_cons,List.not_mem_nil,or_false] at hp
   rcases hp with rfl | rfl | rfl | rfl | rfl
   · exact ⟨ha1,hs⟩
   · exact ⟨b1m,hs2⟩
   · exact ⟨b1k,by simp only; omega⟩
   · exact ⟨b1n,by simp only; omega⟩
   · exact ⟨b1p,hs3⟩) (by simp; omega)
  have H:=H.addRow ha2
  obtain ⟨r,hr,hnm,hvar⟩:=hxt
  obtain ⟨f,hf,hkf⟩:=PU (b1:=b1) (b2:=b2) (b3:=b3) (b4:=b4) (b5:=b5) (b6:=b6) (b7:=b7) (b8:=b8) hr
  have ldm:=Er (s:=q1) (v:=.m mid) (off:=0) b1m rfl
  have ldk:=Er (s:=q1) (v:=.i .u8 (x.2.kind:Nat)) (off:=0) b1n rfl
  have hrp:(lim prog).call FV [.s [32],.i .i64 (x.1:Nat)] q1=some (.s (List.replicate x.1 32),q1):=by
   refine KP Lj rfl ?_
   show (if x.1≤9223372036854775807∧[32].length*x.1≤140737488355328 then some (AV.s (repN [32] x.1)) else none)=_
   rw [if_pos (by simp; omega),RE]
  refine JC ?_
  refine N5 (t:=(e.set 10 17 (.i .i64 (x.1:Nat))).set 10 18 (.agg x.2.cells)) hk rfl ?_
  simp only [wA,C8,subC,go_sem,AD,AA,AC,AB,KB_n,KB_x,Nat.reduceBEq,Nat.reduceAdd,Nat.reduceLT,Nat.reduceLeDiff,Nat.reduceEqDiff,reduceIte,Int.reduceEq,reduceCtorEq,st0]
  refine ⟨_,_,_,_,by rw [bx0 k1 (by omega)]; exact hk,?_⟩
  rw [hq1]
  simp only [wC,C8,subC,go_sem,AD,AA,AC,AB,KB_n,KB_x,Nat.reduceBEq,Nat.reduceAdd,Nat.reduceLT,Nat.reduceLeDiff,Nat.reduceEqDiff,reduceIte,Int.reduceEq,reduceCtorEq]
  refine JS rfl ?_
  have hw0:r.word.length≤6:=by
   unfold ruleK at hr
   split at hr<;>(try cases hr)<;>decide
  have c1:Am.binOp .add (.s (List.replicate x.1 32)) (.s r.word)=some (.s (List.replicate x.1 32++r.word)):=Et (by simp; omega)
  have hal:∀ w:List Nat,Ak 1 [AV.s w]=true:=fun _=>rfl
  have ldn:=Er (s:=q1) (v:=.s x.2.name) (off:=1) b1n rfl
  have ldi:=Er (s:=q1) (v:=.ws false 2 (x.2.items.map IT.av)) (off:=2) b1n rfl
  have hrs:=WP hkf
  simp only [rlV] at hf hrs
  simp only [go_sem,AD,AA,AC,AB,KB_n,KB_x,Nat.reduceBEq,Nat.reduceAdd,Nat.reduceLT,Nat.reduceLeDiff,Nat.reduceEqDiff,reduceIte,Int.reduceEq,reduceCtorEq,g4,g5,hrp,ldm,ldk,b1p,hf,cut_rl,c1,hal]
  refine Mz rfl (by simp only [go_sem,AD,AA,AC,AB,KB_n,KB_x,Nat.reduceBEq,Nat.reduceAdd,Nat.reduceLT,Nat.reduceLeDiff,Nat.reduceEqDiff,reduceIte,Int.reduceEq,reduceCtorEq,g4]) (by simp [still,beqA]) ⟨⟨_,rfl,ldm⟩,⟨_,rfl,ldm⟩,⟨_,rfl,ldm⟩,trivial⟩ ?_
  refine Mz rfl (by simp only [go_sem,AD,AA,AC,AB,KB_n,KB_x,Nat.reduceBEq,Nat.reduceAdd,Nat.reduceLT,Nat.reduceLeDiff,Nat.reduceEqDiff,reduceIte,Int.reduceEq,reduceCtorEq]) (QH _ _) ⟨⟨_,rfl,ldk⟩,⟨_,rfl,ldk⟩,⟨_,rfl,ldk⟩,⟨_,rfl,ldk⟩,⟨_,rfl,ldk⟩,trivial⟩ ?_
  have hlook:∀ e':Tr,e'.get 21=.m mid→e'.get 23=.i .u8 (x.2.kind:Nat)→evOp (lim prog) e' q1 (.look 0 (.agg [.s [],.b false,.i .i64 0,.i .i64 0,.nf]) false (.t 21) (.t 23))=some (.agg [.s r.word,.b r.named,.i .i64 r.least,.i .i64 r.most,f],q1):=fun e' h1 h2=>by
   simp only [evOp,X.ev,h1,h2,b1p,hf,Bool.false_eq_true,if_false]
  have hop:∀ e':Tr,e'.get 21=.m mid→e'.get 23=.i .u8 (x.2.kind:Nat)→∃ q s',some q1=some q∧DI e' q (.look 0 (.agg [.s [],.b false,.i .i64 0,.i .i64 0,.nf]) false (.t 21) (.t 23))=true∧evOp (lim prog) e' q (.look 0 (.agg [.s [],.b false,.i .i64 0,.i .i64 0,.nf]) false (.t 21) (.t 23))=some (.agg [.s r.word,.b r.named,.i .i64 r.least,.i .i64 r.most,f],s'):=fun e' h1 h2=>⟨q1,q1,rfl,rfl,hlook e' h1 h2⟩
  refine KW_op rfl hrs ⟨hop _ (by simp only [go_sem,AD,AA,AC,AB,KB_n,KB_x,Nat.reduceBEq,Nat.reduceAdd,Nat.reduceLT,Nat.reduceLeDiff,Nat.reduceEqDiff,reduceIte,Int.reduceEq,reduceCtorEq]) (by simp only [go_sem,AD,AA,AC,AB,KB_n,KB_x,Nat.reduceBEq,Nat.reduceAdd,Nat.reduceLT,Nat.reduceLeDiff,Nat.reduceEqDiff,reduceIte,Int.reduceEq,reduceCtorEq]),hop _ (by simp only [go_sem,AD,AA,AC,AB,KB_n,KB_x,Nat.reduceBEq,Nat.reduceAdd,Nat.reduceLT,Nat.reduceLeDiff,Nat.reduceEqDiff,reduceIte,Int.reduceEq,reduceCtorEq]) (by simp only [go_sem,AD,AA,AC,AB,KB_n,KB_x,Nat.reduceBEq,Nat.reduceAdd,Nat.reduceLT,Nat.reduceLeDiff,Nat.reduceEqDiff,reduceIte,Int.reduceEq,reduceCtorEq]),hop _ (by simp only [go_sem,AD,AA,AC,AB,KB_n,KB_x,Nat.reduceBEq,Nat.reduceAdd,Nat.reduceLT,Nat.reduceLeDiff,Nat.reduceEqDiff,reduceIte,Int.reduceEq,reduceCtorEq]) (by simp only [go_sem,AD,AA,AC,AB,KB_n,KB_x,Nat.reduceBEq,Nat.reduceAdd,Nat.reduceLT,Nat.reduceLeDiff,Nat.reduceEqDiff,reduceIte,Int.reduceEq,reduceCtorEq]),hop _ (by simp only [go_sem,AD,AA,AC,AB,KB_n,KB_x,Nat.reduceBEq,Nat.reduceAdd,Nat.reduceLT,Nat.reduceLeDiff,Nat.reduceEqDiff,reduceIte,Int.reduceEq,reduceCtorEq]) (by simp only [go_sem,AD,AA,AC,AB,KB_n,KB_x,Nat.reduceBEq,Nat.reduceAdd,Nat.reduceLT,Nat.reduceLeDiff,Nat.reduceEqDiff,reduceIte,Int.reduceEq,reduceCtorEq]),hop _ (by simp only [go_sem,AD,AA,AC,AB,KB_n,KB_x,Nat.reduceBEq,Nat.reduceAdd,Nat.reduceLT,Nat.reduceLeDiff,Nat.reduceEqDiff,reduceIte,Int.reduceEq,reduceCtorEq]) (by simp only [go_sem,AD,AA,AC,AB,KB_n,KB_x,Nat.reduceBEq,Nat.reduceAdd,Nat.reduceLT,Nat.reduceLeDiff,Nat.reduceEqDiff,reduceIte,Int.reduceEq,reduceCtorEq]),hop _ (by simp only [go_sem,AD,AA,AC,AB,KB_n,KB_x,Nat.reduceBEq,Nat.reduceAdd,Nat.reduceLT,Nat.reduceLeDiff,Nat.reduceEqDiff,reduceIte,Int.reduceEq,reduceCtorEq]) (by simp only [go_sem,AD,AA,AC,AB,KB_n,KB_x,Nat.reduceBEq,Nat.reduceAdd,Nat.reduceLT,Nat.reduceLeDiff,Nat.reduceEqDiff,reduceIte,Int.reduceEq,reduceCtorEq]),trivial⟩ (JT ?_)
  have hline:=Yo x hr
  obtain ⟨W1,hW1⟩:∃ W1,(List.replicate x.1 32++r.word)::(if x.2.name=[] then [] else [x.2.name])=W1:=⟨_,rfl⟩
  have hline:joinN [32] (W1++x.2.items.map DQ)=DJ x:=by rw [← hW1,← hline]; rfl
  have hW1n:W1≠[]:=by rw [← hW1]; simp
  have hW1l:W1.length≤4:=by rw [← hW1]; split<;>simp
  have Hw:=H.addFull 1 9 (a:=.sl 1 [.s (List.replicate x.1 32++r.word)] .full) (xs:=[.s (List.replicate x.1 32++r.word)]) true JO.full
  refine (KS_n _ _).2 ?_
  refine FG (fun e' q'=>∃ w,Hp s q' ⟨q1.lo,q1.nb,q1.nt⟩ [⟨1,9,w,W1.map .s,true⟩,⟨1,9,a,((L.take j).map DJ).map .s,true⟩] ((ob,.cells 26 [a])::([(mb,.cells 73 [.m mid]),(k1,.loop 1 none e [17,18] wA wC),(q.nb,.cells 25 x.2.cells),(mid,.map (ES b1 b2 b3 b4 b5 b6 b7 b8))]++rest))∧q1.nb≤q'.nb∧e'.get 5=.p ob 0∧e'.get 7=.p q.nb 0∧e'.get 8=w) ?_ ?_
  · by_cases hnn:x.2.name=[]
    · have e1:(x.2.name≠[])=False:=eq_false (fun h=>h hnn)
      simp only [go_sem,AD,AA,AC,AB,KB_n,KB_x,Nat.reduceBEq,Nat.reduceAdd,Nat.reduceLT,Nat.reduceLeDiff,Nat.reduceEqDiff,reduceIte,Int.reduceEq,reduceCtorEq,ldn,e1,g5]
      rw [if_pos hnn] at hW1
      rw [← hW1]
      exact ⟨_,Hw,Nat.le_refl _,rfl⟩
    · have e1:(x.2.name≠[])=True:=eq_true hnn
      obtain ⟨w',q2,d2,H2,n2,_⟩:=Hw.app 0 (y:=.sl 1 [.s x.2.name] .full) (ys:=[.s x.2.name]) rfl (by simp [elems,St.ok]) (by simp)
      simp only [go_sem,AD,AA,AC,AB,KB_n,KB_x,Nat.reduceBEq,Nat.reduceAdd,Nat.reduceLT,Nat.reduceLeDiff,Nat.reduceEqDiff,reduceIte,Int.reduceEq,reduceCtorEq,ldn,e1,g5,hal,d2]
      rw [if_neg hnn] at hW1
      rw [← hW1]
      exact ⟨_,H2,by omega,rfl⟩
  · rintro e' q' ⟨w,Hq,hnb,h5,h7,h8⟩
    refine WR Hq (i:=2) (nx:=q.nb) (x:=x.2) rfl hxo hxi hW1n hW1l (by rw [hline]; exact hxl) (by rw [List.length_map,List.length_take]; omega) h5 h7 h8 ?_
    intro e2 q3 a' H3 hnb3 hrt hlo3
    rw [hline] at H3
    have H5:=H3.setBox (i:=2) rfl (.loop 0 none e [17,18] wA wC)
    simp only [List.set_cons_zero,List.set_cons_succ,List.cons_append,List.nil_append] at H5
    simp only [KB_n]
    have nt3:q1.nt≤q3.nt:=H3.nt
    have z1:k1 < q3.nb:=by omega
    have z2:s.nb≤k1:=by omega
    have z3:q.nb≤q3.nb:=by omega
    have z4:q.nt≤q3.nt:=by omega
    have z5:q3.box? k1=some (.loop 1 none e [17,18] wA wC):=(H3.box (i:=2) rfl).1
    refine Ic z5 z1 H3.wf H3.over z2 z3 z4 hkO (fun i hi hlt=>?_) (fun _=>⟨(H5.box (i:=2) rfl).1,(H5.box (i:=1) rfl).1,(H5.box (i:=4) rfl).1,⟨a',(H5.box (i:=0) rfl).1,by rw [htk]; exact H5.rows (i:=0) rfl,fun k hk=>?_,.inl hrt⟩⟩) (fun hh=>by simp at hh) (fun i hh=>by simp at hh)
    · have h1:i≠k1:=by
       rintro rfl
       rcases hi with hi | hi
       · exact hkO hi
       · omega
      have h2:i≠ob∧i≠mb∧i≠mid:=by
       rcases hi with hi | hi
       · exact (hO _ hi).2
       · omega
      rw [Hp.keep (M:=[_,_,_,_,_]) hrest w1 H3 (by rcases hi with hi | hi; exact hO2 _ hi; omega) (by omega) (fun p hp=>by
       simp only [List.mem_cons,List.not_mem_nil,or_false] at hp
       rcases hp with rfl | rfl | rfl | rfl | rfl<;>simp only<;>omega),bx1,if_neg h1,bx0 i hlt]
    · have h1:=hlo3 (RZ (H3.rows (i:=0) rfl) hk)
      refine hC.low k _ ?_
      show q3.lo < k1+1
      omega
end Go.Proofs.YtmnbfgfgjmmhfaaGreatDoor

namespace Go.Proofs.YtmnbfgfgjmmhfaaGreatDoor
open Go.Proofs.YtmnbfgfgjmmhfaaGreatDoor.Am
/-! ### Names -/
def letR (c:Nat):Bool:=(decide (97≤c)&&decide (c≤122))||((decide (65≤c)&&decide (c≤90))||decide (c=95))
theorem Yj:∀ c,c < 256→letR c=EA c:=by decide
def nmB (c:Nat):Bool:=EA c||Ke c
def GG:List Nat→Bool
 | []=>false
 | c::t=>decide (t.length < 64)&&(EA c&&t.all nmB)
theorem Rs:∀ (t:List Nat) (m:Nat),runN t m=t.length↔(t.length≤m∧t.all nmB=true)
 | [],0=>by simp [runN]
 | [],m+1=>by simp [runN]
 | c::t,0=>by simp [runN]
 | c :: t,m+1=>by
   have ih:=Rs t m
   simp only [runN,List.length_cons,List.all_cons,Bool.and_eq_true,nmB]
   cases h:(EA c||Ke c) with
   | false=>simp
   | true =>
     simp only [if_true,true_and]
     constructor
     · intro h
       have:=ih.1 (by omega)
       exact ⟨by omega,this.2⟩
     · rintro ⟨h1,h2⟩
       have:=ih.2 ⟨by omega,h2⟩
       omega
theorem Pf (l:List Nat):(decide (l≠[])&&decide (leadN l=l.length))=GG l:=by
 cases l with
 | nil=>rfl
 | cons c t =>
   have h:=Rs t 63
   have e1:leadN (c::t)=if EA c then 1+runN t 63 else 0:=rfl
   rw [e1]
   simp only [GG]
   cases hl:EA c with
   | false=>simp
   | true =>
     rw [Bool.eq_iff_iff]
     simp only [List.length_cons,if_true,Bool.and_eq_true,decide_eq_true_eq,Bool.true_and]
     constructor
     · rintro ⟨_,h1⟩
       have:=h.1 (by omega)
       exact ⟨by omega,this.2⟩
     · rintro ⟨h1,h2⟩
       have:=h.2 ⟨by omega,h2⟩
       exact ⟨by simp,by omega⟩
theorem WJ:∀ c∈K11,EA c=false:=by decide
theorem WK (l:List Nat):FQ l=GG l:=by
 unfold FQ D5
 rw [Pf]
 match l with
 | []=>simp [GG]
 | [c] =>
   by_cases h:c∈K11
   · have:=WJ c h
     simp [h,GG,this]
   · simp [h]
 | c::d::t=>simp
def spcR (c:Nat):Bool:=(decide (49≤c)&&decide (c≤57))||(decide (c=35)||decide (c=63))
theorem spc_k (c:Nat):spcR c=decide (c∈K11):=by
 unfold spcR
 rw [Bool.eq_iff_iff]
 simp only [Bool.or_eq_true,Bool.and_eq_true,decide_eq_true_eq,List.mem_cons,List.not_mem_nil,or_false]
 omega
/-! ### Words -/
abbrev K17:List Nat:=[32,9,10,39,34,92,36,59,38,124,60,62,40,41,42,63,91]
def badB (q:Bool) (c:Nat):Bool:=decide (c=0)||(!q&&(decide (c∈K17)||decide (c=96)))
theorem bad_q (l:List Nat):l.any (badB true)=decide (0∈l):=by
 rw [Bool.eq_iff_iff]
 simp [badB]
theorem bad_k (c:Nat):badB false c=decide (c∈K19):=by
 rw [Bool.eq_iff_iff]
 simp only [badB,Bool.or_eq_true,Bool.and_eq_true,decide_eq_true_eq,List.mem_cons,List.not_mem_nil,or_false,Bool.not_false,true_and]
 omega
theorem bad_p (l:List Nat):l.any (badB false)=Jj K19 l:=by
 unfold Jj
 congr 1
 funext c
 exact bad_k c
def quoQ:Option PT→Bool
 | none=>false
 | some q=>q.quoted
def samQ:Option PT→Bool→Bool
 | none,_=>false
 | some q,b=>!q.var&&decide (q.quoted=b)
def Hb (prev:Option PT) (p:PT) (next:Option PT):Bool :=
 if p.var then D5 p.text else
 !(!p.quoted&&decide (p.text=[]))&&(!p.text.any (badB p.quoted)&&(!(prev.isNone&&(!p.quoted&&(FA 35 p.text||FA 126 p.text)))&&(!samQ prev p.quoted&&!(p.quoted&&(decide (p.text=[])&&(quoQ prev||quoQ next))))))
def GP:Option PT→List PT→Bool
 | _,[]=>true
 | prev,p::t=>Hb prev p t.head? && GP (some p) t
theorem Jk (o:Option PT) (p:PT) (t:List PT):GP o (p::t)=(Hb o p t.head? && GP (some p) t):=by cases o<;>rfl
theorem NR (o:Option PT):GP o []=true:=by cases o<;>rfl
theorem Rt {l:List Nat} (h:D5 l=true):l≠[]:=by
 rintro rfl
 revert h; decide
theorem ok_f (f:Bool) (p:PT) (hv:p.var=false):FY f p=(!(!p.quoted&&decide (p.text=[]))&&(!p.text.any (badB p.quoted)&&!(f&&(!p.quoted&&(FA 35 p.text||FA 126 p.text))))):=by
 unfold FY
 rw [hv]
 cases hq:p.quoted with
 | true=>simp [bad_q]
 | false =>
   simp only [Bool.false_eq_true,if_false,PN,bad_p,Bool.not_false,Bool.true_and]
   by_cases h:p.text=[]
   · simp [h]
   · simp [h]
theorem Hc : ∀ (l:List PT) (q:PT),(q.var=true→q.text≠[])→FO (some q) l=(!(q.quoted&&(!q.var&&(decide (q.text=[])&&quoQ l.head?)))&&GP (some q) l)
 | [],q,_=>by simp [LK,NR,quoQ]
 | p :: t, q,hq=>by
   rw [Dx,Jk]
   simp only [List.head?_cons,quoQ,Option.isNone_some]
   cases hv:p.var with
   | true =>
     have hok:FY false p=D5 p.text:=by simp [FY,hv]
     have hpr:Hb (some q) p t.head? = D5 p.text:=by simp [Hb,hv]
     rw [hok,hpr]
     cases hp:D5 p.text with
     | false=>simp
     | true =>
       have hne:=Rt hp
       rw [Hc t p (fun _=>hne)]
       have hb:FN p q=(q.quoted&&(!q.var&&(decide (q.text=[])&&p.quoted))):=by
        unfold FN
        rw [hv]
        by_cases ht:q.text=[]
        · have:q.var=false:=by
           cases h:q.var with
           | false=>rfl
           | true=>exact absurd ht (hq h)
          cases hpq:p.quoted<;>cases hqq:q.quoted<;>simp [ht,this]
        · cases hpq:p.quoted<;>cases hqq:q.quoted<;>simp [ht,hne]
       rw [hb,hv]
       simp
   | false =>
     rw [ok_f false p hv,Hc t p (fun h=>by rw [hv] at h; cases h)]
     have hpr:Hb (some q) p t.head? = (!(!p.quoted&&decide (p.text=[]))&&(!p.text.any (badB p.quoted)&&(!(!q.var&&decide (q.quoted=p.quoted))&&!(p.quoted&&(decide (p.text=[])&&(q.quoted||quoQ t.head?)))))):=by
      simp [Hb,hv,quoQ,samQ]
     rw [hpr]
     unfold FN
     rw [hv]
     generalize p.text.any (badB p.quoted)=A
     generalize GP (some p) t=C
     generalize quoQ t.head? = D
     by_cases h1:p.text=[]<;>by_cases h2:q.text=[]<;>simp only [h1,h2,decide_true,decide_false]<;>revert hq <;>
      (cases p.quoted<;>cases q.quoted<;>cases q.var<;>cases A<;>cases C<;>cases D<;>simp [h2])
theorem Qd (l:List PT):GP none l=FO none l:=by
 cases l with
 | nil=>rfl
 | cons p t =>
   rw [Dx,Jk]
   simp only [Option.isNone_none]
   cases hv:p.var with
   | true =>
     have hok:FY true p=D5 p.text:=by simp [FY,hv]
     have hpr:Hb none p t.head? = D5 p.text:=by simp [Hb,hv]
     rw [hok,hpr]
     cases hp:D5 p.text with
     | false=>simp
     | true =>
       rw [Hc t p (fun _=>Rt hp),hv]
       simp
   | false =>
     rw [ok_f true p hv,Hc t p (fun h=>by rw [hv] at h; cases h),hv]
     simp only [Hb,hv,quoQ,samQ,Option.isNone_none]
     generalize p.text.any (badB p.quoted)=A
     generalize GP (some p) t=C
     generalize (FA 35 p.text||FA 126 p.text)=E
     have:(match t.head? with | none=>false | some q=>q.quoted)=quoQ t.head? := by cases t.head? <;> rfl
     try rw [this]
     generalize quoQ t.head? = D
     by_cases h1:p.text=[]<;>simp only [h1,decide_true,decide_false] <;>
      (cases p.quoted<;>cases A<;>cases C<;>cases D<;>cases E<;>simp)
def fixR:List PT→List PT
 | []=>[]
 | p::t=>(if !p.var&&(!p.quoted&&(FA 35 p.text||FA 126 p.text)) then { p with text:=120::p.text } else p)::t
theorem Uf (c:Nat) (t:List Nat) (h:c∉K19):Jj K19 (c::t)=Jj K19 t:=by
 unfold Jj
 rw [List.any_cons,decide_eq_false h,Bool.false_or]
theorem fix_eq (l:List PT):FO none (fixR l)=FO none (fixP l):=by
 cases l with
 | nil=>rfl
 | cons p t =>
   simp only [fixR,fixP]
   split
   · rename_i h
     simp only [Bool.and_eq_true,Bool.not_eq_true'] at h
     obtain ⟨hv,hq,_⟩:=h
     rw [Dx,Dx]
     have e1:∀ c,c∉K19→c≠35→c≠126→FY true { p with text:=c::p.text }=!Jj K19 p.text:=fun c h1 h2 h3=>by
      simp [FY,hv,hq,PN,FA,Uf c _ h1,h2,h3]
     have e2:∀ c,FO (some { p with text:=c::p.text }) t=FO (some { p with text:=[95] }) t:=fun c=>by
      cases t with
      | nil=>rfl
      | cons u t=>rw [Dx,Dx]; simp [FN]
     simp only [Option.isNone_none]
     rw [e1 120 (by decide) (by decide) (by decide),e1 95 (by decide) (by decide) (by decide),e2 120,e2 95]
   · rfl
theorem WL (l:List PT):(fixR l).length=l.length:=by cases l<;>simp [fixR]
theorem WM (l:List PT):(fixP l).length=l.length:=by cases l<;>simp [fixP]
theorem Yk (x:IT):Gb x=(decide (x.parts.length=0)||FP (fixR x.parts)):=by
 unfold Gb FP
 rw [fix_eq,WL,WM]
/-! ### May -/
def Ki (l:List IT):Bool:=l.all Gb&&decide (l.length≤64)
def topR (n:IN):Bool:=match n.kind with
 | 1 | 4 | 6=>decide (n.name=[])&&(decide (n.items.length=0)&&decide (n.kids.length=0))
 | 2=>GG n.name&&(decide (n.items.length=1)&&(!F6 n.items&&(Ki n.items&&decide (n.kids.length=0))))
 | 3=>decide (n.name=[])&&(!decide (n.items.length=0)&&(Ki n.items&&decide (n.kids.length=0)))
 | 5=>decide (n.name=[])&&decide (n.items.length=0)
 | 7=>decide (n.name=[])&&(decide (n.items.length=0)&&decide (n.kids.length=3))
 | 8=>decide (n.name=[])&&(decide (n.items.length=0)&&decide (n.kids.length=2))
 | 9=>GG n.name&&(Ki n.items&&decide (n.kids.length=1))
 | _=>false
theorem OQ {l:List Nat} (h:GG l=true):l≠[]:=by
 rintro rfl
 cases h
theorem Ug (n:IN):mayI n=(n.kids.all mayI&&topR n):=by
 rw [QS]
 simp only [WK]
 unfold topR Ki
 have hA:n.items.length=0→n.items.all Gb=true:=fun h=>by
  rw [List.length_eq_zero_iff] at h
  rw [h]; rfl
 have hN:GG n.name=true→n.name≠[]:=OQ
 generalize n.kids.all mayI=A
 generalize F6 n.items=S
 revert hA hN
 generalize n.items.all Gb=I
 generalize GG n.name=N
 generalize n.name=nm
 generalize n.kids.length=K
 generalize n.items.length=L
 generalize n.kind=k
 intro hA hN
 by_cases hn:nm=[]
 · have hN:N=false:=by
    cases N with
    | false=>rfl
    | true=>exact absurd hn (hN rfl)
   subst hN
   rcases k with _ | _ | _ | _ | _ | _ | _ | _ | _ | _ | k<;>simp only [ruleK,hn]<;>cases A<;>cases I<;>cases S<;>simp at hA ⊢<;>(first | omega | (rw [Bool.eq_iff_iff]; simp; omega))
 · rcases k with _ | _ | _ | _ | _ | _ | _ | _ | _ | _ | k<;>simp only [ruleK,hn]<;>cases A<;>cases I<;>cases S<;>cases N<;>simp [hn] at hA ⊢<;>(first | omega | (rw [Bool.eq_iff_iff]; simp; omega))
/-! ### Lines -/
theorem Ru (d:Nat) (n:IN):DJ (d+1,n)=32::DJ (d,n):=by
 simp [DJ,List.replicate_succ]
theorem Sk:∀ (n:IN) (d:Nat),(allL n (d+1)).map DJ=((allL n d).map DJ).map fun l=>32::l:=by
 refine IN.ind fun n ih d=>?_
 rw [D9,D9 n d]
 simp only [List.map_cons,Ru]
 congr 1
 rw [List.map_flatten,List.map_flatten,List.map_flatten,List.map_map,List.map_map,List.map_map]
 congr 1
 refine List.map_congr_left fun k hk=>?_
 exact ih k hk (d+1)
def linesN (n:IN):List (List Nat):=(allL n 0).map DJ
theorem Pg (n:IN):linesN n=DJ (0,n)::(n.kids.map fun k=>(linesN k).map fun l=>32::l).flatten:=by
 unfold linesN
 rw [D9,List.map_cons]
 congr 1
 rw [List.map_flatten,List.map_map]
 congr 1
 refine List.map_congr_left fun k hk=>?_
 exact Sk k 0
theorem line0 (n:IN):DJ (0,n)=(match ruleK n.kind with | some r=>r.word | none=>[])++((if n.name=[] then [] else 32::n.name)++Mg (n.items.map DQ)):=by
 simp only [DJ,List.replicate_zero,List.nil_append,Rb,Ir]
 congr 1
 by_cases h:n.name=[]
 · simp [h]
 · simp [h,Mg]

attribute [local irreducible] W WO WE WQ WD Tr.get Tr.set
theorem Mj (c:Nat) (hc:c < 256) (s:St):(lim prog).call CS [.i .u8 (c:Nat)] s=some (.b (EA c),s):=by
 rw [← Yj c hc]
 refine fn_W Gw rfl rfl ?_
 have hb:∀ b,KR s [.id] (.b b) (some ([.b b],s.enter)):=fun b=>AL (Over.enter s) rfl rfl
 have e1:((97:Int)≤(c:Int))=(97≤c):=propext (by omega)
 have e2:((c:Int)≤122)=(c≤122):=propext (by omega)
 have e3:((65:Int)≤(c:Int))=(65≤c):=propext (by omega)
 have e4:((c:Int)≤90)=(c≤90):=propext (by omega)
 have e5:((c:Int)=95)=(c=95):=propext (by omega)
 unfold letR
 rcases Classical.propComplete (97≤c) with h1 | h1<;>rcases Classical.propComplete (c≤122) with h2 | h2<;>rcases Classical.propComplete (65≤c) with h3 | h3<;>rcases Classical.propComplete (c≤90) with h4 | h4<;>rcases Classical.propComplete (c=95) with h5 | h5 <;>
  (simp only [CU,go_sem,AD,AA,AC,AB,KB_n,KB_x,Nat.reduceBEq,Nat.reduceAdd,Nat.reduceLT,Nat.reduceLeDiff,Nat.reduceEqDiff,reduceIte,Int.reduceEq,reduceCtorEq,e1,e2,e3,e4,e5,h1,h2,h3,h4,h5,decide_true,decide_false,Bool.and_true,Bool.and_false,Bool.true_and,Bool.false_and,Bool.or_true,Bool.or_false,Bool.true_or,Bool.false_or]; exact hb _)
theorem SY (c:Nat) (s:St):(lim prog).call DX [.i .u8 (c:Nat)] s=some (.b (Ke c),s):=by
 refine fn_W HX rfl rfl ?_
 have hb:∀ b,KR s [.id] (.b b) (some ([.b b],s.enter)):=fun b=>AL (Over.enter s) rfl rfl
 have e1:((48:Int)≤(c:Int))=(48≤c):=propext (by omega)
 have e2:((c:Int)≤57)=(c≤57):=propext (by omega)
 unfold Ke
 by_cases h1:48≤c<;>by_cases h2:c≤57<;>(try omega) <;>
  (simp only [Cj,go_sem,AD,AA,AC,AB,KB_n,KB_x,Nat.reduceBEq,Nat.reduceAdd,Nat.reduceLT,Nat.reduceLeDiff,Nat.reduceEqDiff,reduceIte,Int.reduceEq,reduceCtorEq,e1,e2,h1,h2,decide_true,decide_false,Bool.and_true,Bool.and_false,Bool.true_and,Bool.false_and]; exact hb _)
theorem OP {α:Type} {p:α→Bool} {l:List α} {i:Nat} {d:α} (h:l[i]? = some d):(l.take (i+1)).all p=((l.take i).all p&&p d):=by
 rw [List.take_add_one,h,List.all_append]
 simp
theorem LL {α:Type} {p:α→Bool} {l:List α} {i:Nat} {d:α} (h:l[i]? = some d) (hd:p d=false):l.all p=false:=by
 rw [List.all_eq_false]
 exact ⟨d,List.mem_of_getElem? h,by simp [hd]⟩
theorem Pb (l:List Nat) (hl:Txt l) (s:St) (hw:Wf s):(lim prog).call B5 [.s l] s=some (.b (GG l),s):=by
 refine fn_W Hv rfl rfl ?_
 have hlen:=hl.len
 have hz0:wkZ Av.cin [.s l]=[.s l]:=by simp [Av,wkZ,wk]
 rw [hz0]
 have hb:∀ b,KR s [.id] (.b b) (some ([.b b],s.enter)):=fun b=>AL (Over.enter s) rfl rfl
 cases l with
 | nil =>
   have e1:(([]:List Nat)=[])=True:=eq_true rfl
   simp only [Av,go_sem,AD,AA,AC,AB,KB_n,KB_x,Nat.reduceBEq,Nat.reduceAdd,Nat.reduceLT,Nat.reduceLeDiff,Nat.reduceEqDiff,reduceIte,Int.reduceEq,reduceCtorEq,e1]
   exact hb _
 | cons c t =>
   have e1:((c::t)=[])=False:=by simp
   have hL:=Mj c (hl.lt c (by simp)) s.enter
   have n0:CX (.i .i64 0)=some 0:=rfl
   have g0':(c::t)[0]? = some c:=rfl
   by_cases h64:t.length < 64
   · have e2 : ((64:Int) < (((c::t).length:Nat):Int))=False:=eq_false (by simp only [List.length_cons]; omega)
     cases hlc:EA c with
     | false =>
       rw [hlc] at hL
       have hr:GG (c::t)=false:=by simp [GG,hlc]
       simp only [Av,go_sem,AD,AA,AC,AB,KB_n,KB_x,Nat.reduceBEq,Nat.reduceAdd,Nat.reduceLT,Nat.reduceLeDiff,Nat.reduceEqDiff,reduceIte,Int.reduceEq,reduceCtorEq,e1,e2,n0,g0',hL]
       rw [hr]; exact hb _
     | true =>
       rw [hlc] at hL
       have hr:GG (c::t)=(c::t).all nmB:=by simp [GG,hlc,h64,nmB]
       obtain ⟨A,hA⟩:∃ A,(c::t).all nmB=A:=⟨_,rfl⟩
       rw [hr,hA]
       simp only [Av,go_sem,AD,AA,AC,AB,KB_n,KB_x,Nat.reduceBEq,Nat.reduceAdd,Nat.reduceLT,Nat.reduceLeDiff,Nat.reduceEqDiff,reduceIte,Int.reduceEq,reduceCtorEq,e1,e2,n0,g0',hL]
       refine BP (fun x e q=>∃ i:Nat,i+x=(c::t).length∧((c::t).take i).all nmB=true∧q=s.enter∧e.get 0=.s (c::t)∧e.get 3=.i .i64 (i:Nat)) ?_ (c::t).length _ _ ?_
       · rintro x e q ⟨i,hix,hall,rfl,g0,g3⟩
         by_cases h:i < (c::t).length
         · have f1:((i:Int) < (((c::t).length:Nat):Int))=True:=eq_true (by omega)
           obtain ⟨d,hd⟩:∃ d,(c::t)[i]? = some d:=⟨_,List.getElem?_eq_getElem h⟩
           have hLd:=Mj d (hl.lt d (List.mem_of_getElem? hd)) s.enter
           have hDd:=SY d s.enter
           have hw1:=AR (show i+1 < 2^63 by omega)
           have hnx:nmB d=true→((c::t).take (i+1)).all nmB=true:=fun h=>by rw [OP hd,hall,h]; rfl
           cases hld:EA d with
           | true =>
             rw [hld] at hLd
             simp only [go_sem,AD,AA,AC,AB,KB_n,KB_x,Nat.reduceBEq,Nat.reduceAdd,Nat.reduceLT,Nat.reduceLeDiff,Nat.reduceEqDiff,reduceIte,Int.reduceEq,reduceCtorEq,g0,g3,f1,AG,hd,hLd,hw1]
             exact ⟨x - 1,by omega,i+1,by omega,hnx (by simp [nmB,hld]),rfl⟩
           | false =>
             rw [hld] at hLd
             cases hdd:Ke d with
             | true =>
               rw [hdd] at hDd
               simp only [go_sem,AD,AA,AC,AB,KB_n,KB_x,Nat.reduceBEq,Nat.reduceAdd,Nat.reduceLT,Nat.reduceLeDiff,Nat.reduceEqDiff,reduceIte,Int.reduceEq,reduceCtorEq,g0,g3,f1,AG,hd,hLd,hDd,hw1]
               exact ⟨x - 1,by omega,i+1,by omega,hnx (by simp [nmB,hdd]),rfl⟩
             | false =>
               rw [hdd] at hDd
               have hf:=LL hd (show nmB d=false by simp [nmB,hld,hdd])
               simp only [go_sem,AD,AA,AC,AB,KB_n,KB_x,Nat.reduceBEq,Nat.reduceAdd,Nat.reduceLT,Nat.reduceLeDiff,Nat.reduceEqDiff,reduceIte,Int.reduceEq,reduceCtorEq,g0,g3,f1,AG,hd,hLd,hDd]
               rw [← hA,hf]; exact hb _
         · have f1:((i:Int) < (((c::t).length:Nat):Int))=False:=eq_false (by omega)
           rw [List.take_of_length_le (by omega)] at hall
           simp only [go_sem,AD,AA,AC,AB,KB_n,KB_x,Nat.reduceBEq,Nat.reduceAdd,Nat.reduceLT,Nat.reduceLeDiff,Nat.reduceEqDiff,reduceIte,Int.reduceEq,reduceCtorEq,g0,g3,f1]
           rw [← hA,hall]; exact hb _
       · simp only [go_sem,AD,AA,AC,AB,KB_n,KB_x,Nat.reduceBEq,Nat.reduceAdd,Nat.reduceLT,Nat.reduceLeDiff,Nat.reduceEqDiff,reduceIte,Int.reduceEq,reduceCtorEq]
         exact ⟨0,by omega,by simp,rfl⟩
   · have e2:((64:Int) < (((c::t).length:Nat):Int))=True:=eq_true (by simp only [List.length_cons]; omega)
     have hr:GG (c::t)=false:=by simp [GG,h64]
     simp only [Av,go_sem,AD,AA,AC,AB,KB_n,KB_x,Nat.reduceBEq,Nat.reduceAdd,Nat.reduceLT,Nat.reduceLeDiff,Nat.reduceEqDiff,reduceIte,Int.reduceEq,reduceCtorEq,e1,e2]
     rw [hr]; exact hb _
def one1:List Nat→Bool
 | [c]=>spcR c
 | _=>false
theorem UW {l:List Nat} (h:l.length≠1):one1 l=false:=by
 match l,h with
 | [],_=>rfl
 | [c],h=>simp at h
 | c::d::t,_=>rfl
theorem UX (l:List Nat):D5 l=(one1 l||GG l):=by
 unfold D5
 rw [Pf]
 match l with
 | []=>rfl
 | [c] =>
   show (decide (c∈K11)||GG [c])=(spcR c||GG [c])
   rw [spc_k]
 | c::d::t=>rfl
theorem SZ (l:List Nat) (hl:Txt l) (s:St) (hw:Wf s):(lim prog).call DY [.s l] s=some (.b (D5 l),s):=by
 rw [UX]
 refine fn_W HZ rfl rfl ?_
 have hz0:wkZ A6.cin [.s l]=[.s l]:=by simp [A6,wkZ,wk]
 rw [hz0]
 have hlen:=hl.len
 have hb:∀ b,KR s [.id] (.b b) (some ([.b b],s.enter)):=fun b=>AL (Over.enter s) rfl rfl
 have hN:=Pb l hl s.enter hw.enter
 by_cases h1:l.length=1
 · obtain ⟨c,rfl⟩:=List.length_eq_one_iff.1 h1
   have e0:(((([c]:List Nat).length:Nat):Int)=1)=True:=eq_true (by simp)
   have n0:CX (.i .i64 0)=some 0:=rfl
   have g0':([c]:List Nat)[0]? = some c:=rfl
   have e1:((49:Int)≤(c:Int))=(49≤c):=propext (by omega)
   have e2:((c:Int)≤57)=(c≤57):=propext (by omega)
   have e3:((c:Int)=35)=(c=35):=propext (by omega)
   have e4:((c:Int)=63)=(c=63):=propext (by omega)
   have h0:one1 [c]=spcR c:=rfl
   rw [h0]
   simp only [spcR]
   rcases Classical.propComplete (49≤c) with h1 | h1<;>rcases Classical.propComplete (c≤57) with h2 | h2<;>rcases Classical.propComplete (c=35) with h3 | h3<;>rcases Classical.propComplete (c=63) with h4 | h4 <;>
    (simp only [A6,go_sem,AD,AA,AC,AB,KB_n,KB_x,Nat.reduceBEq,Nat.reduceAdd,Nat.reduceLT,Nat.reduceLeDiff,Nat.reduceEqDiff,reduceIte,Int.reduceEq,reduceCtorEq,e0,n0,g0',e1,e2,e3,e4,h1,h2,h3,h4,hN,decide_true,decide_false,Bool.and_true,Bool.and_false,Bool.true_and,Bool.false_and,Bool.or_true,Bool.or_false,Bool.true_or,Bool.false_or]; exact hb _)
 · have e0:((l.length:Int)=1)=False:=eq_false (by omega)
   rw [UW h1,Bool.false_or]
   simp only [A6,go_sem,AD,AA,AC,AB,KB_n,KB_x,Nat.reduceBEq,Nat.reduceAdd,Nat.reduceLT,Nat.reduceLeDiff,Nat.reduceEqDiff,reduceIte,Int.reduceEq,reduceCtorEq,e0,hN]
   exact hb _
theorem Yc (c:Nat) (l:List Nat) (hl:l.length < 2^62) (s:St) (hw:Wf s):(lim prog).call D7 [.i .u8 (c:Nat),.s l] s=some (.b (decide (c∈l)),s):=by
 refine fn_W JP rfl rfl ?_
 have hz0:wkZ Bt.cin [.i .u8 (c:Nat),.s l]=[.i .u8 (c:Nat),.s l]:=by simp [Bt,wkZ,wk]
 rw [hz0]
 have hb:∀ b,KR s [.id] (.b b) (some ([.b b],s.enter)):=fun b=>AL (Over.enter s) rfl rfl
 simp only [Bt,go_sem,AD,AA,AC,AB,KB_n,KB_x,Nat.reduceBEq,Nat.reduceAdd,Nat.reduceLT,Nat.reduceLeDiff,Nat.reduceEqDiff,reduceIte,Int.reduceEq,reduceCtorEq]
 refine BP (fun x e q=>∃ i:Nat,i+x=l.length∧c∉l.take i∧q=s.enter∧e.get 0=.i .u8 (c:Nat)∧e.get 1=.s l∧e.get 5=.i .i64 (i:Nat)) ?_ l.length _ _ ?_
 · rintro x e q ⟨i,hix,hno,rfl,g0,g1,g5⟩
   by_cases h:i < l.length
   · have f1:((i:Int) < (l.length:Int))=True:=eq_true (by omega)
     obtain ⟨d,hd⟩:∃ d,l[i]? = some d:=⟨_,List.getElem?_eq_getElem h⟩
     have hw1:=AR (show i+1 < 2^63 by omega)
     by_cases hdc:d=c
     · subst hdc
       have e1:((d:Int)=(d:Int))=True:=eq_true rfl
       simp only [go_sem,AD,AA,AC,AB,KB_n,KB_x,Nat.reduceBEq,Nat.reduceAdd,Nat.reduceLT,Nat.reduceLeDiff,Nat.reduceEqDiff,reduceIte,Int.reduceEq,reduceCtorEq,g0,g1,g5,f1,AG,hd,e1]
       rw [decide_eq_true (List.mem_of_getElem? hd)]; exact hb _
     · have e1:((d:Int)=(c:Int))=False:=eq_false (by omega)
       simp only [go_sem,AD,AA,AC,AB,KB_n,KB_x,Nat.reduceBEq,Nat.reduceAdd,Nat.reduceLT,Nat.reduceLeDiff,Nat.reduceEqDiff,reduceIte,Int.reduceEq,reduceCtorEq,g0,g1,g5,f1,AG,hd,e1,hw1]
       refine ⟨x - 1,by omega,i+1,by omega,?_,rfl⟩
       rw [List.take_add_one,hd]
       simp only [Option.toList_some,List.mem_append,List.mem_singleton]
       rintro (h | h)
       · exact hno h
       · exact hdc h.symm
   · have f1:((i:Int) < (l.length:Int))=False:=eq_false (by omega)
     rw [List.take_of_length_le (by omega)] at hno
     simp only [go_sem,AD,AA,AC,AB,KB_n,KB_x,Nat.reduceBEq,Nat.reduceAdd,Nat.reduceLT,Nat.reduceLeDiff,Nat.reduceEqDiff,reduceIte,Int.reduceEq,reduceCtorEq,g0,g1,g5,f1]
     rw [decide_eq_false hno]; exact hb _
 · simp only [go_sem,AD,AA,AC,AB,KB_n,KB_x,Nat.reduceBEq,Nat.reduceAdd,Nat.reduceLT,Nat.reduceLeDiff,Nat.reduceEqDiff,reduceIte,Int.reduceEq,reduceCtorEq]
   exact ⟨0,by omega,by simp,rfl⟩

theorem Ul (a:Int):Am.binOp .quo (.i .i64 a) (.i .i64 100)=some (.i .i64 (IntKind.i64.wrap (a.tdiv 100))):=rfl
theorem ild0 (y:IT) (s:St):ldA s false 1 (.ep y.cells 0 .shut)=some (.ws false 3 (y.parts.map PT.av)):=rfl
theorem pld1 (p:PT) (s:St):ldA s false 1 (.ep p.cells 1 .shut)=some (.s p.text):=rfl
theorem NT : ∀ n:IN,n.Ok→∀ s,Wf s→∃ z:Int,(lim prog).call BZ [.agg n.cells] s=some (.i .i64 z,s):=by
 refine IN.ind fun n ih ho s hw=>?_
 suffices h:∃ r s',(lim prog).call BZ [.agg n.cells] s=some (r,s')∧∃ z:Int,r=.i .i64 z∧s'=s by
  obtain ⟨r,s',h1,z,rfl,rfl⟩:=h
  exact ⟨z,h1⟩
 refine fn_G Ho rfl rfl ?_
 have hz0:wkZ Au.cin [.agg n.cells]=[.agg n.cells]:=by simp [Au,wkZ,wk,IN.cells,itx]
 rw [hz0]
 have e0:s.enter.nb=s.nb:=rfl
 have H1:=(Hp.begin hw).new (.cells 25 n.cells)
 obtain ⟨q1,hq1⟩:∃ q1,s.enter.new (.cells 25 n.cells)=q1:=⟨_,rfl⟩
 rw [hq1,e0] at H1
 have l1:=H1.ld 0 (off:=1) (v:=.s n.name) rfl rfl
 have l2:=H1.ld 0 (off:=2) (v:=.ws false 2 (n.items.map IT.av)) rfl rfl
 have l3:=H1.ld 0 (off:=3) (v:=.ws false 4 (n.kids.map IN.av)) rfl rfl
 have hil:=ho.items.2
 have hkl:=ho.kids.2
 have hlv:∀ v:AV,v.refs=false→leave s q1 v=s:=fun v hv=>H1.over.leave hv
 have fin:∀ z:Int,∃ vs s2,(some ([AV.i .i64 z],q1):Option (List AV×St))=some (vs,s2)∧∃ z':Int,BE (wkZ [.id] vs)=.i .i64 z'∧leave s s2 (BE vs)=s:=fun z=>⟨_,_,rfl,z,rfl,hlv _ rfl⟩
 by_cases hi:300 < n.items.length
 · have e1:((300:Int) < (n.items.length:Int))=True:=eq_true (by omega)
   simp only [Au,go_sem,AD,AA,AC,AB,KB_n,KB_x,Nat.reduceBEq,Nat.reduceAdd,Nat.reduceLT,Nat.reduceLeDiff,Nat.reduceEqDiff,reduceIte,Int.reduceEq,reduceCtorEq,nc4,hq1,e0,l1,l2,l3,List.length_map,e1]
   exact fin 1000
 have e1:((300:Int) < (n.items.length:Int))=False:=eq_false (by omega)
 by_cases hk:300 < n.kids.length
 · have e2:((300:Int) < (n.kids.length:Int))=True:=eq_true (by omega)
   simp only [Au,go_sem,AD,AA,AC,AB,KB_n,KB_x,Nat.reduceBEq,Nat.reduceAdd,Nat.reduceLT,Nat.reduceLeDiff,Nat.reduceEqDiff,reduceIte,Int.reduceEq,reduceCtorEq,nc4,hq1,e0,l1,l2,l3,List.length_map,e1,e2]
   exact fin 1000
 have e2:((300:Int) < (n.kids.length:Int))=False:=eq_false (by omega)
 by_cases hn:300 < n.name.length
 · have e3:((300:Int) < (n.name.length:Int))=True:=eq_true (by omega)
   simp only [Au,go_sem,AD,AA,AC,AB,KB_n,KB_x,Nat.reduceBEq,Nat.reduceAdd,Nat.reduceLT,Nat.reduceLeDiff,Nat.reduceEqDiff,reduceIte,Int.reduceEq,reduceCtorEq,nc4,hq1,e0,l1,l2,l3,List.length_map,e1,e2,e3]
   exact fin 1000
 have e3:((300:Int) < (n.name.length:Int))=False:=eq_false (by omega)
 simp only [Au,go_sem,AD,AA,AC,AB,KB_n,KB_x,Nat.reduceBEq,Nat.reduceAdd,Nat.reduceLT,Nat.reduceLeDiff,Nat.reduceEqDiff,reduceIte,Int.reduceEq,reduceCtorEq,nc4,hq1,e0,l1,l2,l3,List.length_map,e1,e2,e3]
 refine BP (fun x e q'=>∃ (i:Nat) (z:Int),i+x=n.items.length∧q'=q1∧e.get 1=.p s.nb 0∧e.get 3=.i .i64 z∧e.get 4=.i .i64 (i:Nat)) ?_ n.items.length _ _ ?_
 · rintro x e q' ⟨i,z,hix,hqq,g1,g3,g4⟩
   subst q'
   by_cases h:i < n.items.length
   · have h1:((i:Int) < (n.items.length:Int))=True:=eq_true (by omega)
     obtain ⟨y,hy⟩:∃ y,n.items[i]? = some y:=⟨_,List.getElem?_eq_getElem h⟩
     have hg:=It hy
     have hyl:=(ho.items.1 y (List.mem_of_getElem? hy)).len
     have hw1:=AR (show i+1 < 2^63 by omega)
     by_cases hp:100 < y.parts.length
     · have f1:((100:Int) < (y.parts.length:Int))=True:=eq_true (by omega)
       simp only [go_sem,AD,AA,AC,AB,KB_n,KB_x,Nat.reduceBEq,Nat.reduceAdd,Nat.reduceLT,Nat.reduceLeDiff,Nat.reduceEqDiff,reduceIte,Int.reduceEq,reduceCtorEq,g1,g3,g4,l2,List.length_map,h1,AG,hg,ild0,f1]
       exact fin 1000
     have f1:((100:Int) < (y.parts.length:Int))=False:=eq_false (by omega)
     simp only [go_sem,AD,AA,AC,AB,KB_n,KB_x,Nat.reduceBEq,Nat.reduceAdd,Nat.reduceLT,Nat.reduceLeDiff,Nat.reduceEqDiff,reduceIte,Int.reduceEq,reduceCtorEq,g1,g3,g4,l2,List.length_map,h1,AG,hg,ild0,f1]
     refine BP (fun u e q'=>∃ (j:Nat) (z:Int),j+u=y.parts.length∧q'=q1∧e.get 1=.p s.nb 0∧e.get 3=.i .i64 z∧e.get 4=.i .i64 (i:Nat)∧e.get 5=.i .i64 (j:Nat)) ?_ y.parts.length _ _ ?_
     · clear g1 g3 g4
       rintro u e q' ⟨j,z,hju,hqq,g1,g3,g4,g5⟩
       subst q'
       by_cases hj:j < y.parts.length
       · have h2:((j:Int) < (y.parts.length:Int))=True:=eq_true (by omega)
         obtain ⟨p,hp⟩:∃ p,y.parts[j]? = some p:=⟨_,List.getElem?_eq_getElem hj⟩
         have hgp:=Is hp
         have hwj:=AR (show j+1 < 2^63 by omega)
         by_cases ht:2000 < p.text.length
         · have f2:((2000:Int) < (p.text.length:Int))=True:=eq_true (by omega)
           simp only [go_sem,AD,AA,AC,AB,KB_n,KB_x,Nat.reduceBEq,Nat.reduceAdd,Nat.reduceLT,Nat.reduceLeDiff,Nat.reduceEqDiff,reduceIte,Int.reduceEq,reduceCtorEq,g1,g3,g4,g5,l2,List.length_map,h2,AG,hg,ild0,hgp,pld1,f2]
           exact fin 1000
         have f2:((2000:Int) < (p.text.length:Int))=False:=eq_false (by omega)
         simp only [go_sem,AD,AA,AC,AB,KB_n,KB_x,Nat.reduceBEq,Nat.reduceAdd,Nat.reduceLT,Nat.reduceLeDiff,Nat.reduceEqDiff,reduceIte,Int.reduceEq,reduceCtorEq,g1,g3,g4,g5,l2,List.length_map,h2,AG,hg,ild0,hgp,pld1,f2,Ul,hwj]
         exact ⟨u - 1,by omega,j+1,_,by omega,rfl,rfl⟩
       · have h2:((j:Int) < (y.parts.length:Int))=False:=eq_false (by omega)
         simp only [go_sem,AD,AA,AC,AB,KB_n,KB_x,Nat.reduceBEq,Nat.reduceAdd,Nat.reduceLT,Nat.reduceLeDiff,Nat.reduceEqDiff,reduceIte,Int.reduceEq,reduceCtorEq,g1,g3,g4,g5,l2,List.length_map,h2,AG,hg,ild0,hw1]
         exact ⟨x - 1,by omega,i+1,z,by omega,rfl,rfl⟩
     · simp only [go_sem,AD,AA,AC,AB,KB_n,KB_x,Nat.reduceBEq,Nat.reduceAdd,Nat.reduceLT,Nat.reduceLeDiff,Nat.reduceEqDiff,reduceIte,Int.reduceEq,reduceCtorEq,g1,g3,g4]
       exact ⟨0,_,by omega,rfl,rfl⟩
   · have h1:((i:Int) < (n.items.length:Int))=False:=eq_false (by omega)
     simp only [go_sem,AD,AA,AC,AB,KB_n,KB_x,Nat.reduceBEq,Nat.reduceAdd,Nat.reduceLT,Nat.reduceLeDiff,Nat.reduceEqDiff,reduceIte,Int.reduceEq,reduceCtorEq,g1,g3,g4,l2,List.length_map,h1]
     refine BP (fun x e q'=>∃ (k:Nat) (z:Int),k+x=n.kids.length∧q'=q1∧e.get 1=.p s.nb 0∧e.get 3=.i .i64 z∧e.get 6=.i .i64 (k:Nat)) ?_ n.kids.length _ _ ?_
     · clear g1 g3 g4
       rintro u e q' ⟨k,z,hku,hqq,g1,g3,g6⟩
       subst q'
       by_cases hk2:k < n.kids.length
       · have h2:((k:Int) < (n.kids.length:Int))=True:=eq_true (by omega)
         obtain ⟨c,hc⟩:∃ c,n.kids[k]? = some c:=⟨_,List.getElem?_eq_getElem hk2⟩
         have hcm:=List.mem_of_getElem? hc
         have hgc:=Iu hc
         have hwk:=AR (show k+1 < 2^63 by omega)
         by_cases hz:z≤400
         · have f2:(z≤400)=True:=eq_true hz
           obtain ⟨z2,hc2⟩:=ih c hcm (ho.kids.1 c hcm) q1 H1.wf
           simp only [go_sem,AD,AA,AC,AB,KB_n,KB_x,Nat.reduceBEq,Nat.reduceAdd,Nat.reduceLT,Nat.reduceLeDiff,Nat.reduceEqDiff,reduceIte,Int.reduceEq,reduceCtorEq,g1,g3,g6,l3,List.length_map,h2,f2,AG,hgc,nld,DS,nc4,hc2,hwk]
           exact ⟨u - 1,by omega,k+1,_,by omega,rfl,rfl⟩
         · have f2:(z≤400)=False:=eq_false hz
           simp only [go_sem,AD,AA,AC,AB,KB_n,KB_x,Nat.reduceBEq,Nat.reduceAdd,Nat.reduceLT,Nat.reduceLeDiff,Nat.reduceEqDiff,reduceIte,Int.reduceEq,reduceCtorEq,g1,g3,g6,l3,List.length_map,h2,f2]
           exact fin z
       · have h2:((k:Int) < (n.kids.length:Int))=False:=eq_false (by omega)
         simp only [go_sem,AD,AA,AC,AB,KB_n,KB_x,Nat.reduceBEq,Nat.reduceAdd,Nat.reduceLT,Nat.reduceLeDiff,Nat.reduceEqDiff,reduceIte,Int.reduceEq,reduceCtorEq,g1,g3,g6,l3,List.length_map,h2]
         exact fin z
     · simp only [go_sem,AD,AA,AC,AB,KB_n,KB_x,Nat.reduceBEq,Nat.reduceAdd,Nat.reduceLT,Nat.reduceLeDiff,Nat.reduceEqDiff,reduceIte,Int.reduceEq,reduceCtorEq,g1,g3]
       exact ⟨0,z,by omega,rfl,rfl⟩
 · simp only [go_sem,AD,AA,AC,AB,KB_n,KB_x,Nat.reduceBEq,Nat.reduceAdd,Nat.reduceLT,Nat.reduceLeDiff,Nat.reduceEqDiff,reduceIte,Int.reduceEq,reduceCtorEq]
   exact ⟨0,1,by omega,rfl,rfl⟩

theorem Wy {u:Nat} (h:u < 10):FE (u:Int)=[48+u]:=by
 rw [Mf,Go.Lib.decDigits,dif_pos h]
 simp [UInt8.toNat_add]
 omega
theorem Wz {u:Nat} (h:¬ u < 10):FE (u:Int)=FE ((u / 10:Nat):Int)++[48+u % 10]:=by
 rw [Mf,Mf,Go.Lib.decDigits,dif_neg h,List.map_append]
 simp [UInt8.toNat_add]
 omega
theorem Ri (m:Nat):Am.binOp .rem (.i .i64 (m:Int)) (.i .i64 10)=some (.i .i64 ((m % 10:Nat):Int)):=by
 rw [bi_rem,if_neg (by decide)]
 congr 2
theorem Rj (m:Nat) (h:m < 2^62):Am.binOp .quo (.i .i64 (m:Int)) (.i .i64 10)=some (.i .i64 ((m / 10:Nat):Int)):=by
 rw [bi_quo,if_neg (by decide)]
 have h1:((m:Int).tdiv 10)=((m / 10:Nat):Int):=by rw [Int.tdiv_eq_ediv_of_nonneg (by omega)]; omega
 rw [h1]
 have hw:=AR (i:=m / 10 - 1) (by omega)
 by_cases h0:m / 10=0
 · rw [h0]; rfl
 · have e:(((m / 10 - 1:Nat):Int)+1)=((m / 10:Nat):Int):=by omega
   rw [e] at hw
   rw [hw,show m / 10 - 1+1=m / 10 by omega]
theorem w48:∀ k:Nat,k < 10→IntKind.i64.wrap (48+(k:Int))=((48+k:Nat):Int):=by decide
theorem w48u:∀ k:Nat,k < 10→IntKind.u8.wrap ((48+k:Nat):Int)=((48+k:Nat):Int):=by decide
theorem by48:∀ k:Nat,k < 10→IR [.i .u8 ((48+k:Nat):Int)]=some [(48+k:Nat)]:=by decide
theorem al48 (k:IntKind) (n:Int):Ak 1 [AV.i k n]=true:=rfl
theorem UY (n:Nat) (h:n < 2^60):(FE (n:Int)).length≤21:=by
 have:=L7 (n:=(n:Int)) (by omega) (by omega)
 omega
theorem QV (n:Nat) (hn:n < 2^60) (s:St) (hw:Wf s):(lim prog).call DM [.i .i64 (n:Nat)] s=some (.s (FE (n:Int)),s):=by
 refine fn_W Gx rfl rfl ?_
 have hlen:=UY n hn
 obtain ⟨D,hD⟩:∃ D,FE (n:Int)=D:=⟨_,rfl⟩
 rw [hD] at hlen ⊢
 have hb:KR s [.id] (.s D) (some ([.s D],s.enter)):=AL (Over.enter s) rfl rfl
 have k10:∀ m:Nat,m % 10 < 10:=fun m=>Nat.mod_lt _ (by decide)
 have hok:s.enter.ok .full=true:=rfl
 have q1:=Rj n (by omega)
 simp only [CV,go_sem,AD,AA,AC,AB,KB_n,KB_x,Nat.reduceBEq,Nat.reduceAdd,Nat.reduceLT,Nat.reduceLeDiff,Nat.reduceEqDiff,reduceIte,Int.reduceEq,reduceCtorEq,Ri,w48 _ (k10 n),w48u _ (k10 n),by48 _ (k10 n),al48,hok,q1]
 refine BP (fun x e q=>q=s.enter∧∃ T:List Nat,(if x=0 then T else FE (x:Int)++T)=D∧e.get 0=.i .i64 (x:Nat)∧e.get 3=.s T∧x < 2^60) ?_ (n / 10) _ _ ?_
 · rintro x e q ⟨rfl,T,hT,g0,g3,hx⟩
   by_cases h:0 < x
   · have f1:((0:Int) < (x:Int))=True:=eq_true (by omega)
     have q2:=Rj x (by omega)
     rw [if_neg (by omega)] at hT
     have hTl:T.length≤21:=by
      have:=congrArg List.length hT
      rw [List.length_append] at this; omega
     have c1:Am.binOp .add (.s [48+x % 10]) (.s T)=some (.s ([48+x % 10]++T)):=Et (by simp; omega)
     simp only [go_sem,AD,AA,AC,AB,KB_n,KB_x,Nat.reduceBEq,Nat.reduceAdd,Nat.reduceLT,Nat.reduceLeDiff,Nat.reduceEqDiff,reduceIte,Int.reduceEq,reduceCtorEq,g0,g3,f1,Ri,w48 _ (k10 x),w48u _ (k10 x),by48 _ (k10 x),al48,hok,q2,c1]
     refine ⟨x / 10,by omega,[48+x % 10]++T,?_,rfl,rfl,by omega⟩
     rw [← hT]
     by_cases h10:x < 10
     · rw [if_pos (by omega),Wy h10,Nat.mod_eq_of_lt h10]
     · rw [if_neg (by omega),Wz h10,List.append_assoc]
   · have f1:((0:Int) < (x:Int))=False:=eq_false (by omega)
     rw [if_pos (by omega)] at hT
     simp only [go_sem,AD,AA,AC,AB,KB_n,KB_x,Nat.reduceBEq,Nat.reduceAdd,Nat.reduceLT,Nat.reduceLeDiff,Nat.reduceEqDiff,reduceIte,Int.reduceEq,reduceCtorEq,g0,g3,f1]
     rw [hT]; exact hb
 · simp only [go_sem,AD,AA,AC,AB,KB_n,KB_x,Nat.reduceBEq,Nat.reduceAdd,Nat.reduceLT,Nat.reduceLeDiff,Nat.reduceEqDiff,reduceIte,Int.reduceEq,reduceCtorEq]
   refine ⟨[48+n % 10],?_,rfl,by omega⟩
   rw [← hD]
   by_cases h10:n < 10
   · rw [if_pos (by omega),Wy h10,Nat.mod_eq_of_lt h10]
   · rw [if_neg (by omega),Wz h10]
theorem Kg (l:List Nat) (h:l.length < 2^60) (s:St) (hw:Wf s):(lim prog).call CD [.s l] s=some (.s (Bf l),s):=by
 refine fn_W Ga rfl rfl ?_
 have hi:=QV l.length h s.enter hw.enter
 have hl:=UY l.length h
 have c1:Am.binOp .add (.s (FE (l.length:Int))) (.s [58])=some (.s (FE (l.length:Int)++[58])):=Et (by simp; omega)
 have c2:Am.binOp .add (.s (FE (l.length:Int)++[58])) (.s l)=some (.s (FE (l.length:Int)++[58]++l)):=Et (by simp; omega)
 simp only [CF,go_sem,AD,AA,AC,AB,KB_n,KB_x,Nat.reduceBEq,Nat.reduceAdd,Nat.reduceLT,Nat.reduceLeDiff,Nat.reduceEqDiff,reduceIte,Int.reduceEq,reduceCtorEq,hi,c1,c2]
 refine AL (Over.enter s) rfl ?_
 simp only [BE,wkZ,wk,Bf,List.append_assoc,List.cons_append,List.nil_append]
theorem ild1 (y:IT) (s:St):ldA s false 1 (.ep y.cells 1 .shut)=some (.b y.split):=rfl
def DT (l:List IT):List Nat:=Mg (l.map DQ)
theorem Sa {l:List IT} {i:Nat} {x:IT} (h:l[i]? = some x):DT (l.take (i+1))=DT (l.take i)++32::DQ x:=by
 rw [List.take_add_one,h]
 simp [DT,Mg]
theorem WA (l:List IT) (i:Nat):(DT (l.take i)).length≤(DT l).length:=by
 have:DT l=DT (l.take i)++DT (l.drop i):=by
  unfold DT Mg
  rw [← List.flatMap_append,← List.map_append,List.take_append_drop]
 rw [this,List.length_append]; omega
theorem QW (l:List IT) (hl:∀ x∈l,x.Ok) (hn:l.length < 2^34) (hb:∀ y∈l,(y.parts.flatMap Bx).length < 2^59) (hT:(DT l).length < 2^61) (s:St) (hw:Wf s):(lim prog).call Bq [itx l] s=some (.s (DT l),s):=by
 refine fn_W HY rfl rfl ?_
 have hz0:wkZ BU.cin [itx l]=[itx l]:=by simp [BU,wkZ,wk,itx]
 rw [hz0]
 have H1:=Hp.begin hw
 have e0:s.enter.nb=s.nb:=rfl
 have htw:∀ (q:St) (l:List AV),GE q (.ws false 2 l)=some (.ws false 2 l,q):=fun _ _=>rfl
 simp only [BU,go_sem,AD,AA,AC,AB,KB_n,KB_x,Nat.reduceBEq,Nat.reduceAdd,Nat.reduceLT,Nat.reduceLeDiff,Nat.reduceEqDiff,reduceIte,Int.reduceEq,reduceCtorEq]
 refine BP (fun x e q=>∃ i:Nat,i+x=l.length∧Hp s q s.en [] []∧e.get 0=itx l∧e.get 3=.s (DT (l.take i))∧e.get 4=.i .i64 (i:Nat)) ?_ l.length _ _ ?_
 · rintro x e q ⟨i,hix,H,g0,g3,g4⟩
   by_cases h:i < l.length
   · have f1:((i:Int) < (l.length:Int))=True:=eq_true (by omega)
     obtain ⟨y,hy⟩:∃ y,l[i]? = some y:=⟨_,List.getElem?_eq_getElem h⟩
     have hym:=List.mem_of_getElem? hy
     have hgy:=It hy
     have hw1:=AR (show i+1 < 2^63 by omega)
     have hyo:=hl y hym
     have hyb:=hb y hym
     have hpl:=hyo.len
     simp only [go_sem,AD,AA,AC,AB,KB_n,KB_x,Nat.reduceBEq,Nat.reduceAdd,Nat.reduceLT,Nat.reduceLeDiff,Nat.reduceEqDiff,reduceIte,Int.reduceEq,reduceCtorEq,g0,g3,g4,itx,List.length_map,f1]
     refine BP (fun z e q=>∃ j:Nat,j+z=y.parts.length∧Hp s q s.en [] []∧e.get 0=itx l∧e.get 3=.s (DT (l.take i))∧e.get 4=.i .i64 (i:Nat)∧e.get 5=.s ((y.parts.take j).flatMap Bx)∧e.get 6=.i .i64 (j:Nat)) ?_ y.parts.length _ _ ?_
     · clear g0 g3 g4 H q e
       rintro z e q ⟨j,hjz,H,g0,g3,g4,g5,g6⟩
       by_cases h:j < y.parts.length
       · have f2:((j:Int) < (y.parts.length:Int))=True:=eq_true (by omega)
         obtain ⟨p,hp⟩:∃ p,y.parts[j]? = some p:=⟨_,List.getElem?_eq_getElem h⟩
         have hgp:=Is hp
         have hpo:=hyo.parts p (List.mem_of_getElem? hp)
         have hw2:=AR (show j+1 < 2^63 by omega)
         have H2:=H.new (.cells 85 [.b false,.s [],.b false])
         obtain ⟨q2,hq2⟩:∃ q2,q.new (.cells 85 [.b false,.s [],.b false])=q2:=⟨_,rfl⟩
         rw [hq2] at H2
         obtain ⟨q3,d3,H3,n3,_⟩:=H2.stw 0 (m:=3) (v:=.agg p.cells) rfl rfl ⟨pc3 p,po3 p⟩
         have k0:=H3.ld 0 (off:=0) (v:=.b p.var) rfl rfl
         have k1:=H3.ld 0 (off:=1) (v:=.s p.text) rfl rfl
         have k2:=H3.ld 0 (off:=2) (v:=.b p.quoted) rfl rfl
         have p3:=Kg p.text hpo.len q3 H3.wf
         have hsn:=Uj hp
         have hle:=fm_le y.parts (j+1)
         rw [hsn,List.length_append] at hle
         have hpe:=Ui p
         have hpt:(Bx p).length=2+(Bf p.text).length:=by unfold Bx; simp; omega
         have hD:=H3.dropB
         obtain ⟨A,hA⟩:∃ A,(y.parts.take j).flatMap Bx=A:=⟨_,rfl⟩
         rw [hA] at g5 hsn hle
         have c1:∀ B:List Nat,B.length < 2^59→∀ c:Nat,Am.binOp .add (.s B) (.s [c])=some (.s (B++[c])):=fun B hB c=>Et (by simp; omega)
         have c3:∀ b c:Nat,Am.binOp .add (.s (A++[b]++[c])) (.s (Bf p.text))=some (.s (A++[b]++[c]++Bf p.text)):=fun b c=>Et (by simp; omega)
         have hA1:A.length < 2^59:=by omega
         have hA2:∀ b:Nat,(A++[b]).length < 2^59:=fun b=>by simp; omega
         have hfin:∀ b c:Nat,[b]++[c]++Bf p.text=Bx p→A++[b]++[c]++Bf p.text=(y.parts.take (j+1)).flatMap Bx:=fun b c h=>by
          rw [hsn,← h]; simp
         cases hv:p.var<;>cases hqq:p.quoted<;>rw [hv] at k0 hpe<;>rw [hqq] at k2 hpe <;>
          (simp only [go_sem,AD,AA,AC,AB,KB_n,KB_x,Nat.reduceBEq,Nat.reduceAdd,Nat.reduceLT,Nat.reduceLeDiff,Nat.reduceEqDiff,reduceIte,Int.reduceEq,reduceCtorEq,g0,g3,g4,g5,g6,itx,htw,AG,hgy,ild0,List.length_map,f2,hgp,pld,Dw,pc3,hq2,d3,k0,k1,k2,p3,c1 _ hA1,c1 _ (hA2 _),c3,hw2]
           exact ⟨z - 1,by omega,j+1,by omega,hD,congrArg AV.s (hfin _ _ (by simpa using hpe)),rfl⟩)
       · have f2:((j:Int) < (y.parts.length:Int))=False:=eq_false (by omega)
         rw [List.take_of_length_le (by omega)] at g5
         have p2:=Kg (y.parts.flatMap Bx) (by omega) q H.wf
         have hcl:=Hd (y.parts.flatMap Bx) (by omega)
         have hsn:=Sa hy
         have hle:=WA l (i+1)
         rw [hsn,List.length_append,List.length_cons] at hle
         obtain ⟨A,hA⟩:∃ A,DT (l.take i)=A:=⟨_,rfl⟩
         rw [hA] at g3 hsn hle
         have htl:(DQ y).length=1+(Bf (y.parts.flatMap Bx)).length:=by simp [DQ]; omega
         have c1:∀ b:Nat,Am.binOp .add (.s A) (.s [32,b])=some (.s (A++[32,b])):=fun b=>Et (by simp; omega)
         have c2:∀ b:Nat,Am.binOp .add (.s (A++[32,b])) (.s (Bf (y.parts.flatMap Bx)))=some (.s (A++[32,b]++Bf (y.parts.flatMap Bx))):=fun b=>Et (by simp; omega)
         have hfin:∀ b:Nat,b::Bf (y.parts.flatMap Bx)=DQ y→A++[32,b]++Bf (y.parts.flatMap Bx)=DT (l.take (i+1)):=fun b h=>by
          rw [hsn,← h]; simp
         have hs1:=ild1 y
         have htt:(if y.split then 42 else 61)::Bf (y.parts.flatMap Bx)=DQ y:=rfl
         cases hsp:y.split<;>rw [hsp] at htt <;>
          (simp only [hsp] at hs1
           simp only [go_sem,AD,AA,AC,AB,KB_n,KB_x,Nat.reduceBEq,Nat.reduceAdd,Nat.reduceLT,Nat.reduceLeDiff,Nat.reduceEqDiff,reduceIte,Int.reduceEq,reduceCtorEq,g0,g3,g4,g5,g6,itx,htw,AG,hgy,ild0,List.length_map,f2,hs1,p2,c1,c2,hw1]
           exact ⟨x - 1,by omega,i+1,by omega,H,congrArg AV.s (hfin _ htt),rfl⟩)
     · simp only [go_sem,AD,AA,AC,AB,KB_n,KB_x,Nat.reduceBEq,Nat.reduceAdd,Nat.reduceLT,Nat.reduceLeDiff,Nat.reduceEqDiff,reduceIte,Int.reduceEq,reduceCtorEq,g0,g3,g4]
       exact ⟨0,by omega,H,by simp,rfl⟩
   · have f1:((i:Int) < (l.length:Int))=False:=eq_false (by omega)
     rw [List.take_of_length_le (by omega)] at g3
     simp only [go_sem,AD,AA,AC,AB,KB_n,KB_x,Nat.reduceBEq,Nat.reduceAdd,Nat.reduceLT,Nat.reduceLeDiff,Nat.reduceEqDiff,reduceIte,Int.reduceEq,reduceCtorEq,g0,g3,g4,itx,List.length_map,f1]
     exact AL H.over rfl (by simp only [BE,wkZ,wk])
 · simp only [go_sem,AD,AA,AC,AB,KB_n,KB_x,Nat.reduceBEq,Nat.reduceAdd,Nat.reduceLT,Nat.reduceLeDiff,Nat.reduceEqDiff,reduceIte,Int.reduceEq,reduceCtorEq]
   exact ⟨0,by omega,H1,by simp [DT,Mg],rfl⟩

theorem QX {s:St} {id T off rm:Nat} {fz:Bool} {cs:List AV} {v:AV} (h:s.box? id=some (.row T cs fz rm)) (hc:cs[off]? = some v):ldA s false 1 (.p id off)=some v:=by
 have hcut:cut cs off 1=some [v]:=by
  unfold cut
  have:(cs.drop off).take 1=[v]:=by
   rw [List.take_one,List.head?_drop,hc]; rfl
  simp [this]
 simp only [ldA,St.cells?,h,hcut,scal]
theorem Rk:∀ {l:List PT} {i k:Nat} {p:PT},l[i]? = some p→k < 3→(l.map PT.cells).flatten[i*3+k]? = p.cells[k]?
 | [],_,_,_,h,_=>by simp at h
 | q::l,0,k,p,h,hk=>by
   simp only [List.getElem?_cons_zero,Option.some.injEq] at h
   subst h
   rw [List.map_cons,List.flatten_cons,List.getElem?_append_left (by rw [pc3]; omega),Nat.zero_mul,Nat.zero_add]
 | q::l,i+1,k,p,h,hk=>by
   rw [List.getElem?_cons_succ] at h
   rw [List.map_cons,List.flatten_cons,List.getElem?_append_right (by rw [pc3]; omega),pc3,show (i+1)*3+k - 3=i*3+k by omega]
   exact Rk h hk
theorem WB {α:Type} {p:α→Bool} {l:List α} {i:Nat} {d:α} (h:l[i]? = some d):(l.take (i+1)).any p=((l.take i).any p||p d):=by
 rw [List.take_add_one,h,List.any_append]
 simp
theorem Yd {α:Type} {p:α→Bool} {l:List α} {i:Nat} {d:α} (h:l[i]? = some d) (hd:p d=true):l.any p=true:=by
 rw [List.any_eq_true]
 exact ⟨d,List.mem_of_getElem? h,hd⟩
theorem Ye {e : Tr} {q s:St} {n:En} {Q:Ex→Tr→St→Prop} {l:List PT} {p:PT} {i id T rm pb wb:Nat} {fz:Bool} {xx:Nat×Bool} {B:List (Nat×Box)}
    (H:Hp s q n [] ((pb,.cells 85 p.cells)::B)) (hB:B[0]? = some (wb,.cells 102 [.bl id 3 0 l.length xx,.i .i64 0])) (hqb:q.box? id=some (.row T (l.map PT.cells).flatten fz rm)) (hp:l[i]? = some p) (hpo:Txt p.text) (hl:l.length < 2^40)
    (g1:e.get 1=.p wb 0) (g3:e.get 3=.i .i64 (i:Nat)) (g4:e.get 4=.p pb 0) (g5:e.get 5=.i .i64 0) (hv:p.var=false) (hqe:¬ (p.quoted=false∧p.text=[]))
    (kf:Hb (EJ l i) p l[i+1]? = false→∀ e':Tr,e'.get 2=.b false→Q .r e' q) (kn:Hb (EJ l i) p l[i+1]? = true→∀ e':Tr,e'.get 1=.p wb 0→e'.get 3=.i .i64 (i:Nat)→Q .n e' q) :
    W (lim prog) (subC Ap.body [1,1,0,1,0,0,1,0,0,1,1,1,0,1,0]) e q (KB 2 (KS (lim prog) (subC Ap.body [1,1,0,1,0,0,1,0,0,1,1,1,1]) Q)):=by
 have hplen:=hpo.len
 have hi:i < l.length:=by rw [List.getElem?_eq_some_iff] at hp; exact hp.1
 have k1:=H.ld 0 (off:=1) (v:=.s p.text) rfl rfl
 have k2:=H.ld 0 (off:=2) (v:=.b p.quoted) rfl rfl
 have lw:=H.ld 1 (off:=0) (v:=.bl id 3 0 l.length xx) (by simpa using hB) rfl
 have hPR:Hb (EJ l i) p l[i+1]? = (!p.text.any (badB p.quoted)&&(!((EJ l i).isNone&&(!p.quoted&&(FA 35 p.text||FA 126 p.text)))&&(!samQ (EJ l i) p.quoted&&!(p.quoted&&(decide (p.text=[])&&(quoQ (EJ l i)||quoQ l[i+1]?)))))):=by
  have:(!p.quoted&&decide (p.text=[]))=false:=by
   cases hq:p.quoted with
   | true=>rfl
   | false=>simp; intro h; exact hqe ⟨hq,h⟩
  simp only [Hb,hv,Bool.false_eq_true,if_false,this,Bool.not_false,Bool.true_and]
 have hQn:quoQ none=false:=rfl
 have hQs:∀ v:PT,quoQ (some v)=v.quoted:=fun _=>rfl
 have hSn:∀ b,samQ none b=false:=fun _=>rfl
 have hSs:∀ (v:PT) b,samQ (some v) b=(!v.var&&decide (v.quoted=b)):=fun _ _=>rfl
 rw [hPR] at kf kn
 clear hPR
 simp only [Ap,subC]
 refine BP (fun y e q'=>∃ k:Nat,k+y=p.text.length∧q'=q∧(p.text.take k).any (badB p.quoted)=false∧e.get 1=.p wb 0∧e.get 3=.i .i64 (i:Nat)∧e.get 4=.p pb 0∧e.get 5=.i .i64 (k:Nat)) ?_ p.text.length _ _ ?_
 · clear g1 g3 g4 g5 e
   rintro y e q' ⟨k,hky,rfl,hno,g1,g3,g4,g5⟩
   by_cases hk:k < p.text.length
   · have f1:((k:Int) < (p.text.length:Int))=True:=eq_true (by omega)
     obtain ⟨c,hc⟩:∃ c,p.text[k]? = some c:=⟨_,List.getElem?_eq_getElem hk⟩
     have hI:=Yc c K17 (by decide) q' H.wf
     have hw1:=AR (show k+1 < 2^63 by omega)
     have hn:badB p.quoted c=false→(p.text.take (k+1)).any (badB p.quoted)=false:=fun h=>by rw [WB hc,hno,h]; rfl
     have hf:badB p.quoted c=true→(!p.text.any (badB p.quoted))=false:=fun h=>by rw [Yd hc h]; rfl
     have e0:((c:Int)=0)=(c=0):=propext (by omega)
     have e9:((c:Int)=96)=(c=96):=propext (by omega)
     have hbB:badB p.quoted c=(decide (c=0)||(!p.quoted&&(decide (c∈K17)||decide (c=96)))):=rfl
     cases hb:badB p.quoted c with
     | false =>
       have hn:=hn hb
       rw [hbB] at hb
       simp only [Bool.or_eq_false_iff,decide_eq_false_iff_not,Bool.and_eq_false_iff,Bool.not_eq_false'] at hb
       have h0:(c=0)=False:=eq_false hb.1
       cases hqq:p.quoted with
       | true =>
         rw [hqq] at k2
         simp only [go_sem,AD,AA,AC,AB,KB_n,KB_x,Nat.reduceBEq,Nat.reduceAdd,Nat.reduceLT,Nat.reduceLeDiff,Nat.reduceEqDiff,reduceIte,Int.reduceEq,reduceCtorEq,g1,g3,g4,g5,k1,k2,f1,AG,hc,e0,h0,hw1]
         exact ⟨y - 1,by omega,k+1,by omega,by have:=hn; rw [hqq] at this; exact this,rfl⟩
       | false =>
         rw [hqq] at k2
         rcases hb.2 with hb2 | ⟨h17,h96⟩
         · rw [hqq] at hb2; cases hb2
         have h96:(c=96)=False:=eq_false h96
         rw [decide_eq_false h17] at hI
         simp only [go_sem,AD,AA,AC,AB,KB_n,KB_x,Nat.reduceBEq,Nat.reduceAdd,Nat.reduceLT,Nat.reduceLeDiff,Nat.reduceEqDiff,reduceIte,Int.reduceEq,reduceCtorEq,g1,g3,g4,g5,k1,k2,f1,AG,hc,e0,h0,hI,e9,h96,hw1]
         exact ⟨y - 1,by omega,k+1,by omega,by have:=hn; rw [hqq] at this; exact this,rfl⟩
     | true =>
       have hf:=hf hb
       have kf:=kf (by rw [hf]; rfl)
       rw [hbB] at hb
       rcases Classical.propComplete (c=0) with h0 | h0
       · simp only [go_sem,AD,AA,AC,AB,KB_n,KB_x,Nat.reduceBEq,Nat.reduceAdd,Nat.reduceLT,Nat.reduceLeDiff,Nat.reduceEqDiff,reduceIte,Int.reduceEq,reduceCtorEq,g1,g3,g4,g5,k1,f1,AG,hc,e0,h0]
         exact kf _ (by simp only [go_sem,AD,AA,AC,AB,KB_n,KB_x,Nat.reduceBEq,Nat.reduceAdd,Nat.reduceLT,Nat.reduceLeDiff,Nat.reduceEqDiff,reduceIte,Int.reduceEq,reduceCtorEq])
       · simp only [h0,decide_false,Bool.false_or,Bool.and_eq_true,Bool.not_eq_true',Bool.or_eq_true,decide_eq_true_eq] at hb
         rw [hb.1] at k2
         cases h17:decide (c∈K17) with
         | true =>
           rw [h17] at hI
           simp only [go_sem,AD,AA,AC,AB,KB_n,KB_x,Nat.reduceBEq,Nat.reduceAdd,Nat.reduceLT,Nat.reduceLeDiff,Nat.reduceEqDiff,reduceIte,Int.reduceEq,reduceCtorEq,g1,g3,g4,g5,k1,k2,f1,AG,hc,e0,h0,hI]
           exact kf _ (by simp only [go_sem,AD,AA,AC,AB,KB_n,KB_x,Nat.reduceBEq,Nat.reduceAdd,Nat.reduceLT,Nat.reduceLeDiff,Nat.reduceEqDiff,reduceIte,Int.reduceEq,reduceCtorEq])
         | false =>
           rw [h17] at hI
           have h96:(c=96)=True:=eq_true (by
            rcases hb.2 with h | h
            · rw [decide_eq_false_iff_not] at h17; exact absurd h h17
            · exact h)
           simp only [go_sem,AD,AA,AC,AB,KB_n,KB_x,Nat.reduceBEq,Nat.reduceAdd,Nat.reduceLT,Nat.reduceLeDiff,Nat.reduceEqDiff,reduceIte,Int.reduceEq,reduceCtorEq,g1,g3,g4,g5,k1,k2,f1,AG,hc,e0,h0,hI,e9,h96]
           exact kf _ (by simp only [go_sem,AD,AA,AC,AB,KB_n,KB_x,Nat.reduceBEq,Nat.reduceAdd,Nat.reduceLT,Nat.reduceLeDiff,Nat.reduceEqDiff,reduceIte,Int.reduceEq,reduceCtorEq])
   · have f1 : ((k:Int) < (p.text.length:Int))=False:=eq_false (by omega)
     rw [List.take_of_length_le (by omega)] at hno
     rw [hno] at kf kn
     simp only [Bool.not_false,Bool.true_and] at kf kn
     have n0:CX (.i .i64 0)=some 0:=rfl
     have hw1:=AR (show i+1 < 2^63 by omega)
     have hN:∀ {v:PT},l[i+1]? = some v→(((i+1:Nat):Int) < (l.length:Int))=True∧i+1 < l.length∧ldA q' false 1 (.p id ((i+1)*3+2))=some (.b v.quoted):=fun h=>by
      have h1:i+1 < l.length:=by rw [List.getElem?_eq_some_iff] at h; exact h.1
      exact ⟨eq_true (by omega),h1,QX hqb (by rw [Rk h (by omega)]; rfl)⟩
     have hNn:l[i+1]? = none→(((i+1:Nat):Int) < (l.length:Int))=False:=fun h=>by
      rw [List.getElem?_eq_none_iff] at h
      exact eq_false (by omega)
     cases i with
     | zero =>
       have hpn:EJ l 0=none:=rfl
       rw [hpn] at kf kn
       simp only [Option.isNone_none,hQn,hSn,Bool.true_and,Bool.not_false,Bool.false_or] at kf kn
       have i0:(((0:Nat):Int)=0)=True:=eq_true rfl
       have i1:((0:Int) < ((0:Nat):Int))=False:=eq_false (by omega)
       cases hqq:p.quoted with
       | false =>
         rw [hqq] at k2 kf kn
         simp only [Bool.not_false,Bool.true_and,Bool.false_and,Bool.and_true] at kf kn
         cases ht:p.text with
         | nil=>exact absurd ⟨hqq,ht⟩ hqe
         | cons c t =>
           rw [ht] at k1 kf kn f1
           have g0':(c::t)[0]? = some c:=rfl
           have e35:((c:Int)=35)=(c=35):=propext (by omega)
           have e126:((c:Int)=126)=(c=126):=propext (by omega)
           simp only [FA] at kf kn
           rcases Classical.propComplete (c=35) with h3 | h3<;>rcases Classical.propComplete (c=126) with h4 | h4 <;>
            (simp only [go_sem,AD,AA,AC,AB,KB_n,KB_x,Nat.reduceBEq,Nat.reduceAdd,Nat.reduceLT,Nat.reduceLeDiff,Nat.reduceEqDiff,reduceIte,Int.reduceEq,reduceCtorEq,g1,g3,g4,g5,k1,k2,f1,n0,g0',e35,e126,h3,h4,i0,i1]
             first
             | exact kf (by simp [h3,h4]) _ (by simp only [go_sem,AD,AA,AC,AB,KB_n,KB_x,Nat.reduceBEq,Nat.reduceAdd,Nat.reduceLT,Nat.reduceLeDiff,Nat.reduceEqDiff,reduceIte,Int.reduceEq,reduceCtorEq])
             | exact kn (by simp [h3,h4]) _ (by simp only [go_sem,AD,AA,AC,AB,KB_n,KB_x,Nat.reduceBEq,Nat.reduceAdd,Nat.reduceLT,Nat.reduceLeDiff,Nat.reduceEqDiff,reduceIte,Int.reduceEq,reduceCtorEq,g1]) (by simp only [go_sem,AD,AA,AC,AB,KB_n,KB_x,Nat.reduceBEq,Nat.reduceAdd,Nat.reduceLT,Nat.reduceLeDiff,Nat.reduceEqDiff,reduceIte,Int.reduceEq,reduceCtorEq,g3]))
       | true =>
         rw [hqq] at k2 kf kn
         simp only [Bool.not_true,Bool.false_and,Bool.not_false,Bool.true_and] at kf kn
         rcases Classical.propComplete (p.text=[]) with ht | ht
         · rcases hnx:l[0+1]? with _ | v
           · have f2:=hNn hnx
             rw [hnx] at kf kn
             simp only [hQn,hQs] at kf kn
             simp only [go_sem,AD,AA,AC,AB,KB_n,KB_x,Nat.reduceBEq,Nat.reduceAdd,Nat.reduceLT,Nat.reduceLeDiff,Nat.reduceEqDiff,reduceIte,Int.reduceEq,reduceCtorEq,g1,g3,g4,g5,k1,k2,lw,f1,i0,i1,ht,hw1,f2]
             exact kn (by simp) _ (by simp only [go_sem,AD,AA,AC,AB,KB_n,KB_x,Nat.reduceBEq,Nat.reduceAdd,Nat.reduceLT,Nat.reduceLeDiff,Nat.reduceEqDiff,reduceIte,Int.reduceEq,reduceCtorEq,g1]) (by simp only [go_sem,AD,AA,AC,AB,KB_n,KB_x,Nat.reduceBEq,Nat.reduceAdd,Nat.reduceLT,Nat.reduceLeDiff,Nat.reduceEqDiff,reduceIte,Int.reduceEq,reduceCtorEq,g3])
           · obtain ⟨f2,f3,f4⟩:=hN hnx
             rw [hnx] at kf kn
             simp only [hQn,hQs] at kf kn
             cases hvq:v.quoted<;>rw [hvq] at f4 kf kn <;>
              (simp only [go_sem,AD,AA,AC,AB,KB_n,KB_x,Nat.reduceBEq,Nat.reduceAdd,Nat.reduceLT,Nat.reduceLeDiff,Nat.reduceEqDiff,reduceIte,Int.reduceEq,reduceCtorEq,g1,g3,g4,g5,k1,k2,lw,f1,i0,i1,ht,hw1,f2,AG,f3,Nat.zero_add,f4]
               first
               | exact kf (by simp [ht]) _ (by simp only [go_sem,AD,AA,AC,AB,KB_n,KB_x,Nat.reduceBEq,Nat.reduceAdd,Nat.reduceLT,Nat.reduceLeDiff,Nat.reduceEqDiff,reduceIte,Int.reduceEq,reduceCtorEq])
               | exact kn (by simp [ht]) _ (by simp only [go_sem,AD,AA,AC,AB,KB_n,KB_x,Nat.reduceBEq,Nat.reduceAdd,Nat.reduceLT,Nat.reduceLeDiff,Nat.reduceEqDiff,reduceIte,Int.reduceEq,reduceCtorEq,g1]) (by simp only [go_sem,AD,AA,AC,AB,KB_n,KB_x,Nat.reduceBEq,Nat.reduceAdd,Nat.reduceLT,Nat.reduceLeDiff,Nat.reduceEqDiff,reduceIte,Int.reduceEq,reduceCtorEq,g3]))
         · simp only [go_sem,AD,AA,AC,AB,KB_n,KB_x,Nat.reduceBEq,Nat.reduceAdd,Nat.reduceLT,Nat.reduceLeDiff,Nat.reduceEqDiff,reduceIte,Int.reduceEq,reduceCtorEq,g1,g3,g4,g5,k1,k2,lw,f1,i0,i1,ht]
           exact kn (by simp [ht]) _ (by simp only [go_sem,AD,AA,AC,AB,KB_n,KB_x,Nat.reduceBEq,Nat.reduceAdd,Nat.reduceLT,Nat.reduceLeDiff,Nat.reduceEqDiff,reduceIte,Int.reduceEq,reduceCtorEq,g1]) (by simp only [go_sem,AD,AA,AC,AB,KB_n,KB_x,Nat.reduceBEq,Nat.reduceAdd,Nat.reduceLT,Nat.reduceLeDiff,Nat.reduceEqDiff,reduceIte,Int.reduceEq,reduceCtorEq,g3])
     | succ m =>
       obtain ⟨u,hu⟩:∃ u,l[m]? = some u:=⟨_,List.getElem?_eq_getElem (by omega)⟩
       have hpn:EJ l (m+1)=some u:=CW hu
       rw [hpn] at kf kn
       simp only [Option.isNone_some,hQs,hSs,Bool.false_and,Bool.not_false,Bool.true_and] at kf kn
       have i0:(((m+1:Nat):Int)=0)=False:=eq_false (by omega)
       have i1:((0:Int) < ((m+1:Nat):Int))=True:=eq_true (by omega)
       have hsub:IntKind.i64.wrap (((m+1:Nat):Int) - 1)=(m:Int):=by
        rw [show (((m+1:Nat):Int) - 1)=(m:Int) by omega]; exact GO (by omega)
       have hm:m < l.length:=by omega
       have u0:=QX hqb (off:=m*3) (v:=.b u.var) (by have:=Rk hu (k:=0) (by omega); rw [Nat.add_zero] at this; rw [this]; rfl)
       have u2:=QX hqb (off:=m*3+2) (v:=.b u.quoted) (by rw [Rk hu (by omega)]; rfl)
       have eqb:∀ a b:Bool,(a==b)=decide (a=b):=fun a b=>by cases a<;>cases b<;>rfl
       cases hpq:p.quoted<;>rw [hpq] at k2 kf kn<;>cases huq:u.quoted<;>rw [huq] at u2 kf kn<;>cases huv:u.var<;>rw [huv] at u0 kf kn<;>rcases Classical.propComplete (p.text=[]) with ht | ht <;>
        (simp only [ht,decide_true,decide_false,Bool.not_true,Bool.not_false,Bool.true_and,Bool.false_and,Bool.and_true,Bool.and_false,Bool.true_or,Bool.false_or,reduceCtorEq] at kf kn
         first
         | (simp [hpq,ht] at hqe; done)
         | (simp only [go_sem,AD,AA,AC,AB,KB_n,KB_x,Nat.reduceBEq,Nat.reduceAdd,Nat.reduceLT,Nat.reduceLeDiff,Nat.reduceEqDiff,reduceIte,Int.reduceEq,reduceCtorEq,g1,g3,g4,g5,k1,k2,lw,f1,i0,i1,ht,hw1,hsub,AG,hm,Nat.zero_add,Nat.add_zero,u0,u2]
            first
            | exact kf trivial _ (by simp only [go_sem,AD,AA,AC,AB,KB_n,KB_x,Nat.reduceBEq,Nat.reduceAdd,Nat.reduceLT,Nat.reduceLeDiff,Nat.reduceEqDiff,reduceIte,Int.reduceEq,reduceCtorEq])
            | exact kn trivial _ (by simp only [go_sem,AD,AA,AC,AB,KB_n,KB_x,Nat.reduceBEq,Nat.reduceAdd,Nat.reduceLT,Nat.reduceLeDiff,Nat.reduceEqDiff,reduceIte,Int.reduceEq,reduceCtorEq,g1]) (by simp only [go_sem,AD,AA,AC,AB,KB_n,KB_x,Nat.reduceBEq,Nat.reduceAdd,Nat.reduceLT,Nat.reduceLeDiff,Nat.reduceEqDiff,reduceIte,Int.reduceEq,reduceCtorEq,g3]))
         | (rcases hnx:l[m+1+1]? with _ | v
            · have f2:=hNn hnx
              rw [hnx] at kf kn
              simp only [hQn,hQs] at kf kn
              simp only [go_sem,AD,AA,AC,AB,KB_n,KB_x,Nat.reduceBEq,Nat.reduceAdd,Nat.reduceLT,Nat.reduceLeDiff,Nat.reduceEqDiff,reduceIte,Int.reduceEq,reduceCtorEq,g1,g3,g4,g5,k1,k2,lw,f1,i0,i1,ht,hw1,f2,hsub,AG,hm,Nat.zero_add,Nat.add_zero,u0,u2]
              exact kn (by simp) _ (by simp only [go_sem,AD,AA,AC,AB,KB_n,KB_x,Nat.reduceBEq,Nat.reduceAdd,Nat.reduceLT,Nat.reduceLeDiff,Nat.reduceEqDiff,reduceIte,Int.reduceEq,reduceCtorEq,g1]) (by simp only [go_sem,AD,AA,AC,AB,KB_n,KB_x,Nat.reduceBEq,Nat.reduceAdd,Nat.reduceLT,Nat.reduceLeDiff,Nat.reduceEqDiff,reduceIte,Int.reduceEq,reduceCtorEq,g3])
            · obtain ⟨f2,f3,f4⟩:=hN hnx
              rw [hnx] at kf kn
              simp only [hQn,hQs] at kf kn
              cases hvq:v.quoted<;>rw [hvq] at f4 kf kn <;>
               (simp only [go_sem,AD,AA,AC,AB,KB_n,KB_x,Nat.reduceBEq,Nat.reduceAdd,Nat.reduceLT,Nat.reduceLeDiff,Nat.reduceEqDiff,reduceIte,Int.reduceEq,reduceCtorEq,g1,g3,g4,g5,k1,k2,lw,f1,i0,i1,ht,hw1,f2,f3,f4,hsub,AG,hm,Nat.zero_add,Nat.add_zero,u0,u2]
                first
                | exact kf (by simp) _ (by simp only [go_sem,AD,AA,AC,AB,KB_n,KB_x,Nat.reduceBEq,Nat.reduceAdd,Nat.reduceLT,Nat.reduceLeDiff,Nat.reduceEqDiff,reduceIte,Int.reduceEq,reduceCtorEq])
                | exact kn (by simp) _ (by simp only [go_sem,AD,AA,AC,AB,KB_n,KB_x,Nat.reduceBEq,Nat.reduceAdd,Nat.reduceLT,Nat.reduceLeDiff,Nat.reduceEqDiff,reduceIte,Int.reduceEq,reduceCtorEq,g1]) (by simp only [go_sem,AD,AA,AC,AB,KB_n,KB_x,Nat.reduceBEq,Nat.reduceAdd,Nat.reduceLT,Nat.reduceLeDiff,Nat.reduceEqDiff,reduceIte,Int.reduceEq,reduceCtorEq,g3]))))
 · exact ⟨0,by omega,rfl,by simp,g1,g3,g4,g5⟩
theorem Rl (l:List PT) (hl:∀ p∈l,Txt p.text) (hn:l.length < 2^40) (s:St) {id T rm:Nat} {fz:Bool} {xx:Nat×Bool} (hid:id < s.nb) (hbx:s.box? id=some (.row T (l.map PT.cells).flatten fz rm)) (hw:Wf s) :
    (lim prog).call Dq [.agg [.bl id 3 0 l.length xx,.i .i64 0]] s=some (.b (FP l),s):=by
 refine fn_W Io rfl rfl ?_
 have hz0:wkZ Ap.cin [.agg [.bl id 3 0 l.length xx,.i .i64 0]]=[.agg [.bl id 3 0 l.length xx,.i .i64 0]]:=by simp only [Ap,wkZ,wk]
 rw [hz0]
 have e0:s.enter.nb=s.nb:=rfl
 have H1:=(Hp.begin hw).new (.cells 102 [.bl id 3 0 l.length xx,.i .i64 0])
 obtain ⟨q1,hq1⟩:∃ q1,s.enter.new (.cells 102 [.bl id 3 0 l.length xx,.i .i64 0])=q1:=⟨_,rfl⟩
 rw [hq1,e0] at H1
 have c2:∀ x y:AV,[x,y].length=2:=fun _ _=>rfl
 have lw:=H1.ld 0 (off:=0) (v:=.bl id 3 0 l.length xx) rfl rfl
 have hWP:FP l=(GP none l&&decide (0 < l.length)):=by unfold FP; rw [Qd]
 by_cases h0:l.length=0
 · have f0:((l.length:Int)=0)=True:=eq_true (by omega)
   have:FP l=false:=by rw [hWP,decide_eq_false (by omega),Bool.and_false]
   rw [this]
   simp only [Ap,go_sem,AD,AA,AC,AB,KB_n,KB_x,Nat.reduceBEq,Nat.reduceAdd,Nat.reduceLT,Nat.reduceLeDiff,Nat.reduceEqDiff,reduceIte,Int.reduceEq,reduceCtorEq,c2,hq1,e0,lw,f0]
   exact AL H1.over rfl rfl
 have f0:((l.length:Int)=0)=False:=eq_false (by omega)
 have hWP2:FP l=GP none l:=by rw [hWP,decide_eq_true (by omega),Bool.and_true]
 obtain ⟨A,hA⟩:∃ A,FP l=A:=⟨_,rfl⟩
 rw [hA]
 rw [hA] at hWP2
 simp only [Ap,go_sem,AD,AA,AC,AB,KB_n,KB_x,Nat.reduceBEq,Nat.reduceAdd,Nat.reduceLT,Nat.reduceLeDiff,Nat.reduceEqDiff,reduceIte,Int.reduceEq,reduceCtorEq,c2,hq1,e0,lw,f0]
 refine BP (fun x e q=>∃ i:Nat,i+x=l.length∧Hp s q s.en [] [(s.nb,.cells 102 [.bl id 3 0 l.length xx,.i .i64 0])]∧GP (EJ l i) (l.drop i)=A∧e.get 1=.p s.nb 0∧e.get 3=.i .i64 (i:Nat)) ?_ l.length _ _ ?_
 · rintro x e q ⟨i,hix,H,hinv,g1,g3⟩
   have lw:=H.ld 0 (off:=0) (v:=.bl id 3 0 l.length xx) rfl rfl
   by_cases hi:i < l.length
   · have h1:((i:Int) < (l.length:Int))=True:=eq_true (by omega)
     obtain ⟨p,hp⟩:∃ p,l[i]? = some p:=⟨_,List.getElem?_eq_getElem hi⟩
     have hpo:=hl p (List.mem_of_getElem? hp)
     have hplen:=hpo.len
     have hdr:l.drop i=p::l.drop (i+1):=by
      rw [List.getElem?_eq_some_iff] at hp
      obtain ⟨h,rfl⟩:=hp
      exact List.drop_eq_getElem_cons h
     have hqb:=Kd H.over hid
     rw [hbx] at hqb
     have hrow:=QO hqb hp
     have H2:=H.new (.cells 85 [.b false,.s [],.b false])
     obtain ⟨q2,hq2⟩:∃ q2,q.new (.cells 85 [.b false,.s [],.b false])=q2:=⟨_,rfl⟩
     rw [hq2] at H2
     obtain ⟨q3,d3,H3,n3,_⟩:=H2.stw 0 (m:=3) (v:=.agg p.cells) rfl rfl ⟨pc3 p,po3 p⟩
     obtain ⟨pb,hpb⟩:∃ pb,q.nb=pb:=⟨_,rfl⟩
     rw [hpb] at H3 d3
     have k0:=H3.ld 0 (off:=0) (v:=.b p.var) rfl rfl
     have k1:=H3.ld 0 (off:=1) (v:=.s p.text) rfl rfl
     have k2:=H3.ld 0 (off:=2) (v:=.b p.quoted) rfl rfl
     have hP:=SZ p.text hpo q3 H3.wf
     have hw1:=AR (show i+1 < 2^63 by omega)
     rw [hdr,Jk] at hinv
     have hnx:GP (EJ l (i+1)) (l.drop (i+1))=GP (some p) (l.drop (i+1)):=by rw [CW hp]
     obtain ⟨nx,hnxt⟩:∃ nx,(l.drop (i+1)).head? = nx:=⟨_,rfl⟩
     rw [hnxt] at hinv
     have hnx2:l[i+1]? = nx:=by rw [← hnxt,List.head?_drop]
     have hcont:Hb (EJ l i) p nx=true→GP (EJ l (i+1)) (l.drop (i+1))=A:=fun h=>by rw [hnx,← hinv,h,Bool.true_and]
     have hbad:Hb (EJ l i) p nx=false→A=false:=fun h=>by rw [← hinv,h,Bool.false_and]
     have hret:∀ {u:St},Over s u→Hb (EJ l i) p nx=false→KR s [.id] (.b A) (some ([.b false],u)):=fun ho h=>by rw [hbad h]; exact AL ho rfl rfl
     cases hv:p.var with
     | true =>
       have hpr:Hb (EJ l i) p nx=D5 p.text:=by simp [Hb,hv]
       rw [hpr] at hcont hret
       rw [hv] at k0
       cases hpp:D5 p.text with
       | false =>
         rw [hpp] at hP
         simp only [go_sem,AD,AA,AC,AB,KB_n,KB_x,Nat.reduceBEq,Nat.reduceAdd,Nat.reduceLT,Nat.reduceLeDiff,Nat.reduceEqDiff,reduceIte,Int.reduceEq,reduceCtorEq,g1,g3,lw,h1,AG,hrow,Dw,pc3,hq2,hpb,d3,k0,k1,hP,hi,Nat.zero_add]
         exact hret H3.over hpp
       | true =>
         rw [hpp] at hP
         simp only [go_sem,AD,AA,AC,AB,KB_n,KB_x,Nat.reduceBEq,Nat.reduceAdd,Nat.reduceLT,Nat.reduceLeDiff,Nat.reduceEqDiff,reduceIte,Int.reduceEq,reduceCtorEq,g1,g3,lw,h1,AG,hrow,Dw,pc3,hq2,hpb,d3,k0,k1,hP,hi,hw1,Nat.zero_add]
         exact ⟨x - 1,by omega,i+1,by omega,H3.dropB,hcont hpp,rfl⟩
     | false =>
       rw [hv] at k0
       by_cases hqe:p.quoted=false∧p.text=[]
       · have e1:(p.text=[])=True:=eq_true hqe.2
         rw [hqe.1] at k2
         simp only [go_sem,AD,AA,AC,AB,KB_n,KB_x,Nat.reduceBEq,Nat.reduceAdd,Nat.reduceLT,Nat.reduceLeDiff,Nat.reduceEqDiff,reduceIte,Int.reduceEq,reduceCtorEq,g1,g3,lw,h1,AG,hrow,Dw,pc3,hq2,hpb,d3,k0,k1,k2,e1,hi,Nat.zero_add]
         exact hret H3.over (by simp [Hb,hv,hqe.1,hqe.2])
       have hmt:=fun (e1:Tr) (Q:Ex→Tr→St→Prop) (h1:e1.get 1=.p s.nb 0) (h3:e1.get 3=.i .i64 (i:Nat)) (h4:e1.get 4=.p pb 0) (h5:e1.get 5=.i .i64 0)=>Ye (Q:=Q) (wb:=s.nb) H3 rfl (by rw [Kd H3.over hid]; exact hbx) hp hpo hn h1 h3 h4 h5 hv hqe
       rw [hnx2] at hmt
       cases hqq:p.quoted with
       | true =>
         rw [hqq] at k2
         simp only [go_sem,AD,AA,AC,AB,KB_n,KB_x,Nat.reduceBEq,Nat.reduceAdd,Nat.reduceLT,Nat.reduceLeDiff,Nat.reduceEqDiff,reduceIte,Int.reduceEq,reduceCtorEq,g1,g3,lw,h1,AG,hrow,Dw,pc3,hq2,hpb,d3,k0,k1,k2,hi,Nat.zero_add]
         refine hmt _ _ ?_ ?_ ?_ ?_ (fun h e' h2=>?_) (fun h e' h1 h3=>?_)
         · simp only [go_sem,AD,AA,AC,AB,KB_n,KB_x,Nat.reduceBEq,Nat.reduceAdd,Nat.reduceLT,Nat.reduceLeDiff,Nat.reduceEqDiff,reduceIte,Int.reduceEq,reduceCtorEq,g1]
         · simp only [go_sem,AD,AA,AC,AB,KB_n,KB_x,Nat.reduceBEq,Nat.reduceAdd,Nat.reduceLT,Nat.reduceLeDiff,Nat.reduceEqDiff,reduceIte,Int.reduceEq,reduceCtorEq,g3]
         · simp only [go_sem,AD,AA,AC,AB,KB_n,KB_x,Nat.reduceBEq,Nat.reduceAdd,Nat.reduceLT,Nat.reduceLeDiff,Nat.reduceEqDiff,reduceIte,Int.reduceEq,reduceCtorEq]
         · simp only [go_sem,AD,AA,AC,AB,KB_n,KB_x,Nat.reduceBEq,Nat.reduceAdd,Nat.reduceLT,Nat.reduceLeDiff,Nat.reduceEqDiff,reduceIte,Int.reduceEq,reduceCtorEq]
         · simp only [go_sem,AD,AA,AC,AB,KB_n,KB_x,Nat.reduceBEq,Nat.reduceAdd,Nat.reduceLT,Nat.reduceLeDiff,Nat.reduceEqDiff,reduceIte,Int.reduceEq,reduceCtorEq,h2]
           exact hret H3.over h
         · simp only [go_sem,AD,AA,AC,AB,KB_n,KB_x,Nat.reduceBEq,Nat.reduceAdd,Nat.reduceLT,Nat.reduceLeDiff,Nat.reduceEqDiff,reduceIte,Int.reduceEq,reduceCtorEq,h1,h3,hw1]
           exact ⟨x - 1,by omega,i+1,by omega,H3.dropB,hcont h,rfl⟩
       | false =>
         rw [hqq] at k2
         have e1:(p.text=[])=False:=eq_false fun h=>hqe ⟨hqq,h⟩
         simp only [go_sem,AD,AA,AC,AB,KB_n,KB_x,Nat.reduceBEq,Nat.reduceAdd,Nat.reduceLT,Nat.reduceLeDiff,Nat.reduceEqDiff,reduceIte,Int.reduceEq,reduceCtorEq,g1,g3,lw,h1,AG,hrow,Dw,pc3,hq2,hpb,d3,k0,k1,k2,e1,hi,Nat.zero_add]
         refine hmt _ _ ?_ ?_ ?_ ?_ (fun h e' h2=>?_) (fun h e' h1 h3=>?_)
         · simp only [go_sem,AD,AA,AC,AB,KB_n,KB_x,Nat.reduceBEq,Nat.reduceAdd,Nat.reduceLT,Nat.reduceLeDiff,Nat.reduceEqDiff,reduceIte,Int.reduceEq,reduceCtorEq,g1]
         · simp only [go_sem,AD,AA,AC,AB,KB_n,KB_x,Nat.reduceBEq,Nat.reduceAdd,Nat.reduceLT,Nat.reduceLeDiff,Nat.reduceEqDiff,reduceIte,Int.reduceEq,reduceCtorEq,g3]
         · simp only [go_sem,AD,AA,AC,AB,KB_n,KB_x,Nat.reduceBEq,Nat.reduceAdd,Nat.reduceLT,Nat.reduceLeDiff,Nat.reduceEqDiff,reduceIte,Int.reduceEq,reduceCtorEq]
         · simp only [go_sem,AD,AA,AC,AB,KB_n,KB_x,Nat.reduceBEq,Nat.reduceAdd,Nat.reduceLT,Nat.reduceLeDiff,Nat.reduceEqDiff,reduceIte,Int.reduceEq,reduceCtorEq]
         · simp only [go_sem,AD,AA,AC,AB,KB_n,KB_x,Nat.reduceBEq,Nat.reduceAdd,Nat.reduceLT,Nat.reduceLeDiff,Nat.reduceEqDiff,reduceIte,Int.reduceEq,reduceCtorEq,h2]
           exact hret H3.over h
         · simp only [go_sem,AD,AA,AC,AB,KB_n,KB_x,Nat.reduceBEq,Nat.reduceAdd,Nat.reduceLT,Nat.reduceLeDiff,Nat.reduceEqDiff,reduceIte,Int.reduceEq,reduceCtorEq,h1,h3,hw1]
           exact ⟨x - 1,by omega,i+1,by omega,H3.dropB,hcont h,rfl⟩
   · have h1:((i:Int) < (l.length:Int))=False:=eq_false (by omega)
     rw [List.drop_of_length_le (by omega),NR] at hinv
     simp only [go_sem,AD,AA,AC,AB,KB_n,KB_x,Nat.reduceBEq,Nat.reduceAdd,Nat.reduceLT,Nat.reduceLeDiff,Nat.reduceEqDiff,reduceIte,Int.reduceEq,reduceCtorEq,g1,g3,lw,h1]
     rw [← hinv]
     exact AL H.over rfl rfl
 · simp only [go_sem,AD,AA,AC,AB,KB_n,KB_x,Nat.reduceBEq,Nat.reduceAdd,Nat.reduceLT,Nat.reduceLeDiff,Nat.reduceEqDiff,reduceIte,Int.reduceEq,reduceCtorEq]
   exact ⟨0,by omega,H1,hWP2.symm,rfl⟩

theorem Sb (x:IT) (hx:x.Ok) (s:St) (hw:Wf s):(lim prog).call Dj [.agg x.cells] s=some (.b (Gb x),s):=by
 rw [Yk]
 refine fn_W Hz rfl rfl ?_
 have hz0:wkZ Aj.cin [.agg x.cells]=[.agg x.cells]:=by simp [Aj,wkZ,wk,IT.cells,ptx,PO]
 rw [hz0]
 have e0:s.enter.nb=s.nb:=rfl
 have H1:=(Hp.begin hw).new (.cells 78 x.cells)
 obtain ⟨q1,hq1⟩:∃ q1,s.enter.new (.cells 78 x.cells)=q1:=⟨_,rfl⟩
 rw [hq1,e0] at H1
 have l6:=H1.ld 0 (off:=0) (v:=.ws false 3 (x.parts.map PT.av)) rfl rfl
 cases hps:x.parts with
 | nil =>
   rw [hps] at l6
   have c0:(((([]:List PT).length:Nat):Int)=0)=True:=eq_true (by simp)
   simp only [Aj,go_sem,AD,AA,AC,AB,KB_n,KB_x,Nat.reduceBEq,Nat.reduceAdd,Nat.reduceLT,Nat.reduceLeDiff,Nat.reduceEqDiff,reduceIte,Int.reduceEq,reduceCtorEq,ic2,hq1,e0,l6,List.length_map,c0]
   exact AL H1.over rfl rfl
 | cons p t =>
   rw [hps] at l6
   have hpl:(p::t).length < 2^34:=by rw [← hps]; exact hx.len
   have hpo:p.Ok:=hx.parts p (by rw [hps]; simp)
   have hpt:=hpo.text.len
   have c0:((((p::t).length:Nat):Int)=0)=False:=eq_false (by simp; omega)
   have hal:Ak 3 []=true:=rfl
   obtain ⟨r,q2,dc,H2,n2,hrt⟩:=H1.appN (es:=3) 85 (a:=.sl 3 [] .full) (xs:=[]) (y:=.ws false 3 ((p::t).map PT.av)) (ys:=(p::t).map PT.av) (.inr (.inr (.inl rfl))) rfl (by simp at hpl ⊢; omega)
   rw [List.nil_append] at H2
   obtain ⟨q3,dt,H3,n3⟩:=H2.thaw 0 rfl (hrt (by simp)).1 [] (by simp) (by simp)
   rw [List.length_map] at dt
   rw [ON] at H3
   have k0:=H3.ldr 0 (off:=0) (v:=.b p.var) rfl rfl
   have k1:=H3.ldr 0 (off:=1) (v:=.s p.text) rfl rfl
   have k2:=H3.ldr 0 (off:=2) (v:=.b p.quoted) rfl rfl
   have n0:CX (.i .i64 0)=some 0:=rfl
   have c1:(0 < (p::t).length)=True:=eq_true (by simp)
   have cbl:∀ a b c d e,(AV.bl a b c d e).cells=[AV.bl a b c d e]:=fun _ _ _ _ _=>rfl
   have hov:∀ v:AV,over [.nsl,.i .i64 0] 0 [v]=some [v,.i .i64 0]:=fun _=>rfl
   have l11:∀ v:AV,([v].length=1)=True:=fun _=>eq_true rfl
   have hto:∀ z∈t,Txt z.text:=fun z hz=>(hx.parts z (by rw [hps]; simp [hz])).text
   have hM:=Rl (p::t) (fun z hz=>by rcases List.mem_cons.1 hz with rfl | hz; exact hpo.text; exact hto z hz) (by omega) q3 (xx:=((p::t).length*3,false)) (id:=q2.nb) (by omega) (H3.box (i:=0) rfl).1 H3.wf
   have hb:∀ b,KR s [.id] (.b b) (some ([.b b],q3)):=fun b=>AL H3.over rfl rfl
   have hd0:decide ((p::t).length=0)=false:=by simp
   rw [hd0,Bool.false_or]
   have hth:∀ (u:St) a b c d e,GE u (.bl a b c d e)=some (.bl a b c d e,u):=fun _ _ _ _ _ _=>rfl
   let p':PT:={ p with text:=120::p.text }
   obtain ⟨q4,d4,H4,n4⟩:=H3.strw 0 (off:=1) (m:=1) (v:=.s (120::p.text)) rfl (by simp [PT.cells]) ⟨rfl,rfl⟩
   have hcs:((p::t).map PT.cells).flatten.take 1++((AV.s (120::p.text)).cells++((p::t).map PT.cells).flatten.drop (1+(AV.s (120::p.text)).cells.length))=((p'::t).map PT.cells).flatten:=rfl
   rw [hcs] at H4
   have htx':Txt p'.text:=⟨fun z hz=>by
    rcases List.mem_cons.1 hz with rfl | hz
    · omega
    · exact hpo.text.lt z hz,by have:=hpo.len; show (120::p.text).length < 2^63; rw [List.length_cons]; omega⟩
   have hM4:=Rl (p'::t) (fun z hz=>by rcases List.mem_cons.1 hz with rfl | hz; exact htx'; exact hto z hz) (by simp only [List.length_cons] at hpl ⊢; omega) q4 (xx:=((p::t).length*3,false)) (id:=q2.nb) (by omega) (H4.box (i:=0) rfl).1 H4.wf
   have hlp:(p'::t).length=(p::t).length:=rfl
   rw [hlp] at hM4
   have hb4:∀ b,KR s [.id] (.b b) (some ([.b b],q4)):=fun b=>AL H4.over rfl rfl
   have hadd:Am.binOp .add (.s [120]) (.s p.text)=some (.s (120::p.text)):=by
    show (if [120].length+p.text.length < 2^62 then some (AV.s ([120]++p.text)) else none)=_
    rw [if_pos (by have:=hpo.len; simp only [List.length_cons,List.length_nil]; omega)]; rfl
   have hsel:∀ {b:Bool},(!p.var&&(!p.quoted&&(FA 35 p.text||FA 126 p.text)))=b→fixR (p::t)=(if b then p' else p)::t:=fun h=>by
    subst h; rfl
   cases hv:p.var with
   | true =>
     rw [hsel (b:=false) (by rw [hv]; rfl)]
     rw [hv] at k0
     simp only [Aj,go_sem,AD,AA,AC,AB,KB_n,KB_x,Nat.reduceBEq,Nat.reduceAdd,Nat.reduceLT,Nat.reduceLeDiff,Nat.reduceEqDiff,reduceIte,Int.reduceEq,reduceCtorEq,ic2,hq1,e0,l6,List.length_map,c0,hal,dc,dt,n0,c1,Nat.zero_mul,Nat.zero_add,Nat.add_zero,k0,cbl,hov,l11,hM]
     exact hb _
   | false =>
     rw [hv] at k0
     cases hqq:p.quoted with
     | true =>
       rw [hsel (b:=false) (by rw [hv,hqq]; rfl)]
       rw [hqq] at k2
       simp only [Aj,go_sem,AD,AA,AC,AB,KB_n,KB_x,Nat.reduceBEq,Nat.reduceAdd,Nat.reduceLT,Nat.reduceLeDiff,Nat.reduceEqDiff,reduceIte,Int.reduceEq,reduceCtorEq,ic2,hq1,e0,l6,List.length_map,c0,hal,dc,dt,n0,c1,Nat.zero_mul,Nat.zero_add,Nat.add_zero,k0,k2,cbl,hov,l11,hM]
       exact hb _
     | false =>
       rw [hqq] at k2
       cases ht:p.text with
       | nil =>
         rw [hsel (b:=false) (by rw [hv,hqq,ht]; rfl)]
         rw [ht] at k1
         have e1:(([]:List Nat)≠[])=False:=by simp
         simp only [Aj,go_sem,AD,AA,AC,AB,KB_n,KB_x,Nat.reduceBEq,Nat.reduceAdd,Nat.reduceLT,Nat.reduceLeDiff,Nat.reduceEqDiff,reduceIte,Int.reduceEq,reduceCtorEq,ic2,hq1,e0,l6,List.length_map,c0,hal,dc,dt,n0,c1,Nat.zero_mul,Nat.zero_add,Nat.add_zero,k0,k1,k2,e1,cbl,hov,l11,hM]
         exact hb _
       | cons c l =>
         have e1:((c::l)≠[])=True:=by simp
         have g0':(c::l)[0]? = some c:=rfl
         have e35:((c:Int)=35)=(c=35):=propext (by omega)
         have e126:((c:Int)=126)=(c=126):=propext (by omega)
         have hs2:=hsel (b:=decide (c=35)||decide (c=126)) (by rw [hv,hqq,ht]; rfl)
         rw [hs2]
         rw [ht] at k1 hadd d4
         rcases Classical.propComplete (c=35) with h3 | h3<;>rcases Classical.propComplete (c=126) with h4 | h4 <;>
          (simp only [Aj,go_sem,AD,AA,AC,AB,KB_n,KB_x,Nat.reduceBEq,Nat.reduceAdd,Nat.reduceLT,Nat.reduceLeDiff,Nat.reduceEqDiff,reduceIte,Int.reduceEq,reduceCtorEq,ic2,hq1,e0,l6,List.length_map,c0,hal,dc,dt,hth,n0,c1,Nat.zero_mul,Nat.zero_add,Nat.add_zero,k0,k1,k2,e1,g0',e35,e126,h3,h4,decide_true,decide_false,Bool.or_true,Bool.or_false,Bool.true_or,Bool.or_self,if_true,hadd,d4,cbl,hov,l11,hM,hM4,Bool.false_eq_true,if_false]
           first
           | exact hb _
           | exact hb4 _)
theorem QY (l:List IT) (hl:∀ x∈l,x.Ok) (hn:l.length < 2^34) (s:St) (hw:Wf s):(lim prog).call Bp [itx l] s=some (.b (Ki l),s):=by
 refine fn_W HW rfl rfl ?_
 have hz0:wkZ BT.cin [itx l]=[itx l]:=by simp [BT,wkZ,wk,itx]
 rw [hz0]
 have hb:∀ b,KR s [.id] (.b b) (some ([.b b],s.enter)):=fun b=>AL (Over.enter s) rfl rfl
 obtain ⟨A,hA⟩:∃ A,l.all Gb=A:=⟨_,rfl⟩
 unfold Ki
 rw [hA]
 simp only [BT,go_sem,AD,AA,AC,AB,KB_n,KB_x,Nat.reduceBEq,Nat.reduceAdd,Nat.reduceLT,Nat.reduceLeDiff,Nat.reduceEqDiff,reduceIte,Int.reduceEq,reduceCtorEq]
 refine BP (fun x e q=>∃ i:Nat,i+x=l.length∧(l.take i).all Gb=true∧q=s.enter∧e.get 0=itx l∧e.get 3=.i .i64 (i:Nat)) ?_ l.length _ _ ?_
 · rintro x e q ⟨i,hix,hall,rfl,g0,g3⟩
   by_cases h:i < l.length
   · have f1:((i:Int) < (l.length:Int))=True:=eq_true (by omega)
     obtain ⟨y,hy⟩:∃ y,l[i]? = some y:=⟨_,List.getElem?_eq_getElem h⟩
     have hgy:=It hy
     have hI:=Sb y (hl y (List.mem_of_getElem? hy)) s.enter hw.enter
     have hw1:=AR (show i+1 < 2^63 by omega)
     cases hy2:Gb y with
     | true =>
       rw [hy2] at hI
       simp only [go_sem,AD,AA,AC,AB,KB_n,KB_x,Nat.reduceBEq,Nat.reduceAdd,Nat.reduceLT,Nat.reduceLeDiff,Nat.reduceEqDiff,reduceIte,Int.reduceEq,reduceCtorEq,g0,g3,itx,List.length_map,f1,AG,hgy,ild,OL,hI,hw1]
       exact ⟨x - 1,by omega,i+1,by omega,by rw [OP hy,hall,hy2]; rfl,rfl⟩
     | false =>
       rw [hy2] at hI
       have hf:=LL hy hy2
       rw [hA] at hf
       subst hf
       simp only [go_sem,AD,AA,AC,AB,KB_n,KB_x,Nat.reduceBEq,Nat.reduceAdd,Nat.reduceLT,Nat.reduceLeDiff,Nat.reduceEqDiff,reduceIte,Int.reduceEq,reduceCtorEq,g0,g3,itx,List.length_map,f1,AG,hgy,ild,OL,hI]
       exact hb _
   · have f1:((i:Int) < (l.length:Int))=False:=eq_false (by omega)
     rw [List.take_of_length_le (by omega),hA] at hall
     subst hall
     have e1:decide ((l.length:Int)≤64)=decide (l.length≤64):=by simp only [decide_eq_decide]; omega
     simp only [go_sem,AD,AA,AC,AB,KB_n,KB_x,Nat.reduceBEq,Nat.reduceAdd,Nat.reduceLT,Nat.reduceLeDiff,Nat.reduceEqDiff,reduceIte,Int.reduceEq,reduceCtorEq,g0,g3,itx,List.length_map,f1,e1,Bool.true_and]
     exact hb _
 · simp only [go_sem,AD,AA,AC,AB,KB_n,KB_x,Nat.reduceBEq,Nat.reduceAdd,Nat.reduceLT,Nat.reduceLeDiff,Nat.reduceEqDiff,reduceIte,Int.reduceEq,reduceCtorEq]
   exact ⟨0,by omega,by simp,rfl⟩
theorem Pc : ∀ n:IN,n.Ok→∀ s,Wf s→(lim prog).call CJ [.agg n.cells] s=some (.b (mayI n),s):=by
 refine IN.ind fun n ih ho s hw=>?_
 rw [Ug]
 refine fn_W Im rfl rfl ?_
 have hz0:wkZ Bj.cin [.agg n.cells]=[.agg n.cells]:=by simp [Bj,wkZ,wk,IN.cells,itx]
 rw [hz0]
 have e0:s.enter.nb=s.nb:=rfl
 have H1:=(Hp.begin hw).new (.cells 25 n.cells)
 obtain ⟨q1,hq1⟩:∃ q1,s.enter.new (.cells 25 n.cells)=q1:=⟨_,rfl⟩
 rw [hq1,e0] at H1
 have hkl:=ho.kids.2
 have hil:=ho.items.2
 have l0:=H1.ld 0 (off:=0) (v:=.i .u8 (n.kind:Nat)) rfl rfl
 have l1:=H1.ld 0 (off:=1) (v:=.s n.name) rfl rfl
 have l2:=H1.ld 0 (off:=2) (v:=.ws false 2 (n.items.map IT.av)) rfl rfl
 have l3:=H1.ld 0 (off:=3) (v:=.ws false 4 (n.kids.map IN.av)) rfl rfl
 have hb:∀ b,KR s [.id] (.b b) (some ([.b b],q1)):=fun b=>AL H1.over rfl rfl
 obtain ⟨A,hA⟩:∃ A,n.kids.all mayI=A:=⟨_,rfl⟩
 rw [hA]
 simp only [Bj,go_sem,AD,AA,AC,AB,KB_n,KB_x,Nat.reduceBEq,Nat.reduceAdd,Nat.reduceLT,Nat.reduceLeDiff,Nat.reduceEqDiff,reduceIte,Int.reduceEq,reduceCtorEq,nc4,e0,hq1]
 refine BP (fun x e q=>∃ i:Nat,i+x=n.kids.length∧(n.kids.take i).all mayI=true∧q=q1∧e.get 1=.p s.nb 0∧e.get 3=.i .i64 (i:Nat)) ?_ n.kids.length _ _ ?_
 · rintro x e q ⟨i,hix,hall,rfl,g1,g3⟩
   by_cases h:i < n.kids.length
   · have f1:((i:Int) < (n.kids.length:Int))=True:=eq_true (by omega)
     obtain ⟨y,hy⟩:∃ y,n.kids[i]? = some y:=⟨_,List.getElem?_eq_getElem h⟩
     have hym:=List.mem_of_getElem? hy
     have hgy:=Iu hy
     have hI:=ih y hym (ho.kids.1 y hym) q H1.wf
     have hw1:=AR (show i+1 < 2^63 by omega)
     cases hy2:mayI y with
     | true =>
       rw [hy2] at hI
       simp only [go_sem,AD,AA,AC,AB,KB_n,KB_x,Nat.reduceBEq,Nat.reduceAdd,Nat.reduceLT,Nat.reduceLeDiff,Nat.reduceEqDiff,reduceIte,Int.reduceEq,reduceCtorEq,g1,g3,l3,List.length_map,f1,AG,hgy,nld,DS,hI,hw1]
       exact ⟨x - 1,by omega,i+1,by omega,by rw [OP hy,hall,hy2]; rfl,rfl⟩
     | false =>
       rw [hy2] at hI
       have hf:=LL hy hy2
       rw [hA] at hf
       subst hf
       simp only [go_sem,AD,AA,AC,AB,KB_n,KB_x,Nat.reduceBEq,Nat.reduceAdd,Nat.reduceLT,Nat.reduceLeDiff,Nat.reduceEqDiff,reduceIte,Int.reduceEq,reduceCtorEq,g1,g3,l3,List.length_map,f1,AG,hgy,nld,DS,hI]
       exact hb _
   · have f1:((i:Int) < (n.kids.length:Int))=False:=eq_false (by omega)
     rw [List.take_of_length_le (by omega),hA] at hall
     subst hall
     rw [Bool.true_and]
     have hN:=Pb n.name ho.name q H1.wf
     have hT:=QY n.items ho.items.1 hil q H1.wf
     simp only [itx] at hT
     have hpi:∀ (l:List AV) u,Am.pub u (.ws false 2 l)=some (.ws false 2 l,u):=fun _ _=>rfl
     have n0:CX (.i .i64 0)=some 0:=rfl
     have eI0:((n.items.length:Int)=0)=(n.items.length=0):=propext (by omega)
     have eI1:((n.items.length:Int)=1)=(n.items.length=1):=propext (by omega)
     have eK:∀ j:Nat,decide ((n.kids.length:Int)=(j:Int))=decide (n.kids.length=j):=fun j=>by simp only [decide_eq_decide]; omega
     have eK0:=eK 0
     have eK1:=eK 1
     have eK2:=eK 2
     have eK3:=eK 3
     have eK0:decide ((n.kids.length:Int)=0)=decide (n.kids.length=0):=eK0
     have eK1:decide ((n.kids.length:Int)=1)=decide (n.kids.length=1):=eK1
     have eK2:decide ((n.kids.length:Int)=2)=decide (n.kids.length=2):=eK2
     have eK3:decide ((n.kids.length:Int)=3)=decide (n.kids.length=3):=eK3
     have hs0:=fun x:IT=>ild1 x q
     have hz:∀ j:Nat,n.kind=j→ldA q false 1 (.p s.nb 0)=some (.i .u8 (j:Int)):=fun j h=>by rw [← h]; exact l0
     have hbig:(n.kind≠1∧n.kind≠2∧n.kind≠3∧n.kind≠4∧n.kind≠5∧n.kind≠6∧n.kind≠7∧n.kind≠8∧n.kind≠9)∨n.kind=1∨n.kind=2∨n.kind=3∨n.kind=4∨n.kind=5∨n.kind=6∨n.kind=7∨n.kind=8∨n.kind=9:=by omega
     rcases hbig with hk | hk | hk | hk | hk | hk | hk | hk | hk | hk
     · have hT0:topR n=false:=by
        unfold topR
        split<;>first | rfl | omega
       have f1':((n.kind:Int)=1)=False:=eq_false (by omega)
       have f2:((n.kind:Int)=2)=False:=eq_false (by omega)
       have f3:((n.kind:Int)=3)=False:=eq_false (by omega)
       have f4:((n.kind:Int)=4)=False:=eq_false (by omega)
       have f5:((n.kind:Int)=5)=False:=eq_false (by omega)
       have f6:((n.kind:Int)=6)=False:=eq_false (by omega)
       have f7:((n.kind:Int)=7)=False:=eq_false (by omega)
       have f8:((n.kind:Int)=8)=False:=eq_false (by omega)
       have f9:((n.kind:Int)=9)=False:=eq_false (by omega)
       rw [hT0]
       simp only [go_sem,AD,AA,AC,AB,KB_n,KB_x,Nat.reduceBEq,Nat.reduceAdd,Nat.reduceLT,Nat.reduceLeDiff,Nat.reduceEqDiff,reduceIte,Int.reduceEq,reduceCtorEq,g1,g3,l0,l1,l2,l3,List.length_map,f1,f1',f2,f3,f4,f5,f6,f7,f8,f9]
       exact hb _
     · have l0:ldA q false 1 (.p s.nb 0)=some (.i .u8 1):=hz 1 hk
       simp only [topR,hk]
       rcases Classical.propComplete (n.name=[]) with hn | hn<;>rcases Classical.propComplete (n.items.length=0) with hi | hi <;>
        (simp only [go_sem,AD,AA,AC,AB,KB_n,KB_x,Nat.reduceBEq,Nat.reduceAdd,Nat.reduceLT,Nat.reduceLeDiff,Nat.reduceEqDiff,reduceIte,Int.reduceEq,reduceCtorEq,g1,g3,l0,l1,l2,l3,List.length_map,f1,hn,eI0,hi,eK0,eK2,eK3,decide_true,decide_false,Bool.true_and,Bool.false_and]; exact hb _)
     · have l0:ldA q false 1 (.p s.nb 0)=some (.i .u8 2):=hz 2 hk
       simp only [topR,hk]
       cases hnm:GG n.name with
       | false =>
         rw [hnm] at hN
         simp only [go_sem,AD,AA,AC,AB,KB_n,KB_x,Nat.reduceBEq,Nat.reduceAdd,Nat.reduceLT,Nat.reduceLeDiff,Nat.reduceEqDiff,reduceIte,Int.reduceEq,reduceCtorEq,g1,g3,l0,l1,l2,l3,List.length_map,f1,hN,Bool.false_and]; exact hb _
       | true =>
         rw [hnm] at hN
         by_cases hi:n.items.length=1
         · obtain ⟨x,hx⟩:=List.length_eq_one_iff.1 hi
           have hi1:=eq_true hi
           have hsp:F6 n.items=x.split:=by rw [hx]; rfl
           have hg0:(n.items.map IT.av)[0]? = some (.agg x.cells):=by rw [hx]; rfl
           have hs0:=hs0 x
           rw [hsp]
           cases hxs:x.split<;>rw [hxs] at hs0<;>cases hit:Ki n.items<;>rw [hit] at hT <;>
            (simp only [go_sem,AD,AA,AC,AB,KB_n,KB_x,Nat.reduceBEq,Nat.reduceAdd,Nat.reduceLT,Nat.reduceLeDiff,Nat.reduceEqDiff,reduceIte,Int.reduceEq,reduceCtorEq,g1,g3,l0,l1,l2,l3,List.length_map,f1,hN,eI1,hi1,n0,hg0,hs0,hpi,hT,eK0,decide_true,Bool.not_true,Bool.not_false,Bool.true_and,Bool.false_and]; exact hb _)
         · have hi1:=eq_false hi
           simp only [go_sem,AD,AA,AC,AB,KB_n,KB_x,Nat.reduceBEq,Nat.reduceAdd,Nat.reduceLT,Nat.reduceLeDiff,Nat.reduceEqDiff,reduceIte,Int.reduceEq,reduceCtorEq,g1,g3,l0,l1,l2,l3,List.length_map,f1,hN,eI1,hi1,decide_false,Bool.true_and,Bool.false_and]; exact hb _
     · have l0:ldA q false 1 (.p s.nb 0)=some (.i .u8 3):=hz 3 hk
       simp only [topR,hk]
       cases hit:Ki n.items<;>rw [hit] at hT<;>rcases Classical.propComplete (n.name=[]) with hn | hn<;>rcases Classical.propComplete (n.items.length=0) with hi | hi <;>
        (simp only [go_sem,AD,AA,AC,AB,KB_n,KB_x,Nat.reduceBEq,Nat.reduceAdd,Nat.reduceLT,Nat.reduceLeDiff,Nat.reduceEqDiff,reduceIte,Int.reduceEq,reduceCtorEq,g1,g3,l0,l1,l2,l3,List.length_map,f1,hn,eI0,hi,eK0,hpi,hT,decide_true,decide_false,Bool.not_true,Bool.not_false,Bool.true_and,Bool.false_and]; exact hb _)
     · have l0:ldA q false 1 (.p s.nb 0)=some (.i .u8 4):=hz 4 hk
       simp only [topR,hk]
       rcases Classical.propComplete (n.name=[]) with hn | hn<;>rcases Classical.propComplete (n.items.length=0) with hi | hi <;>
        (simp only [go_sem,AD,AA,AC,AB,KB_n,KB_x,Nat.reduceBEq,Nat.reduceAdd,Nat.reduceLT,Nat.reduceLeDiff,Nat.reduceEqDiff,reduceIte,Int.reduceEq,reduceCtorEq,g1,g3,l0,l1,l2,l3,List.length_map,f1,hn,eI0,hi,eK0,eK2,eK3,decide_true,decide_false,Bool.true_and,Bool.false_and]; exact hb _)
     · have l0:ldA q false 1 (.p s.nb 0)=some (.i .u8 5):=hz 5 hk
       simp only [topR,hk]
       rcases Classical.propComplete (n.name=[]) with hn | hn<;>rcases Classical.propComplete (n.items.length=0) with hi | hi <;>
        (simp only [go_sem,AD,AA,AC,AB,KB_n,KB_x,Nat.reduceBEq,Nat.reduceAdd,Nat.reduceLT,Nat.reduceLeDiff,Nat.reduceEqDiff,reduceIte,Int.reduceEq,reduceCtorEq,g1,g3,l0,l1,l2,l3,List.length_map,f1,hn,eI0,hi,eK0,eK2,eK3,decide_true,decide_false,Bool.true_and,Bool.false_and]; exact hb _)
     · have l0:ldA q false 1 (.p s.nb 0)=some (.i .u8 6):=hz 6 hk
       simp only [topR,hk]
       rcases Classical.propComplete (n.name=[]) with hn | hn<;>rcases Classical.propComplete (n.items.length=0) with hi | hi <;>
        (simp only [go_sem,AD,AA,AC,AB,KB_n,KB_x,Nat.reduceBEq,Nat.reduceAdd,Nat.reduceLT,Nat.reduceLeDiff,Nat.reduceEqDiff,reduceIte,Int.reduceEq,reduceCtorEq,g1,g3,l0,l1,l2,l3,List.length_map,f1,hn,eI0,hi,eK0,eK2,eK3,decide_true,decide_false,Bool.true_and,Bool.false_and]; exact hb _)
     · have l0:ldA q false 1 (.p s.nb 0)=some (.i .u8 7):=hz 7 hk
       simp only [topR,hk]
       rcases Classical.propComplete (n.name=[]) with hn | hn<;>rcases Classical.propComplete (n.items.length=0) with hi | hi <;>
        (simp only [go_sem,AD,AA,AC,AB,KB_n,KB_x,Nat.reduceBEq,Nat.reduceAdd,Nat.reduceLT,Nat.reduceLeDiff,Nat.reduceEqDiff,reduceIte,Int.reduceEq,reduceCtorEq,g1,g3,l0,l1,l2,l3,List.length_map,f1,hn,eI0,hi,eK0,eK2,eK3,decide_true,decide_false,Bool.true_and,Bool.false_and]; exact hb _)
     · have l0:ldA q false 1 (.p s.nb 0)=some (.i .u8 8):=hz 8 hk
       simp only [topR,hk]
       rcases Classical.propComplete (n.name=[]) with hn | hn<;>rcases Classical.propComplete (n.items.length=0) with hi | hi <;>
        (simp only [go_sem,AD,AA,AC,AB,KB_n,KB_x,Nat.reduceBEq,Nat.reduceAdd,Nat.reduceLT,Nat.reduceLeDiff,Nat.reduceEqDiff,reduceIte,Int.reduceEq,reduceCtorEq,g1,g3,l0,l1,l2,l3,List.length_map,f1,hn,eI0,hi,eK0,eK2,eK3,decide_true,decide_false,Bool.true_and,Bool.false_and]; exact hb _)
     · have l0:ldA q false 1 (.p s.nb 0)=some (.i .u8 9):=hz 9 hk
       simp only [topR,hk]
       cases hit:Ki n.items<;>rw [hit] at hT<;>cases hnm:GG n.name<;>rw [hnm] at hN <;>
        (simp only [go_sem,AD,AA,AC,AB,KB_n,KB_x,Nat.reduceBEq,Nat.reduceAdd,Nat.reduceLT,Nat.reduceLeDiff,Nat.reduceEqDiff,reduceIte,Int.reduceEq,reduceCtorEq,g1,g3,l0,l1,l2,l3,List.length_map,f1,hN,eK1,hpi,hT,Bool.true_and,Bool.false_and]; exact hb _)
 · simp only [go_sem,AD,AA,AC,AB,KB_n,KB_x,Nat.reduceBEq,Nat.reduceAdd,Nat.reduceLT,Nat.reduceLeDiff,Nat.reduceEqDiff,reduceIte,Int.reduceEq,reduceCtorEq]
   exact ⟨0,by omega,by simp,rfl⟩
theorem Sc:∀ n:IN,n.Ok→nodesI n < 2^61→∀ s,Wf s→(lim prog).call Cz [.agg n.cells] s=some (.i .i64 (nodesI n:Nat),s):=by
 refine IN.ind fun n ih ho hb s hw=>?_
 refine fn_W Ht rfl rfl ?_
 have hz0:wkZ Bb.cin [.agg n.cells]=[.agg n.cells]:=by simp [Bb,wkZ,wk,IN.cells,itx]
 rw [hz0]
 have e0:s.enter.nb=s.nb:=rfl
 have H1:=(Hp.begin hw).new (.cells 25 n.cells)
 obtain ⟨q1,hq1⟩:∃ q1,s.enter.new (.cells 25 n.cells)=q1:=⟨_,rfl⟩
 rw [hq1,e0] at H1
 have hkl:=ho.kids.2
 have l3:=H1.ld 0 (off:=3) (v:=.ws false 4 (n.kids.map IN.av)) rfl rfl
 have hne:=Iq n
 simp only [Bb,go_sem,AD,AA,AC,AB,KB_n,KB_x,Nat.reduceBEq,Nat.reduceAdd,Nat.reduceLT,Nat.reduceLeDiff,Nat.reduceEqDiff,reduceIte,Int.reduceEq,reduceCtorEq,nc4,e0,hq1]
 refine BP (fun x e q=>∃ i:Nat,i+x=n.kids.length∧q=q1∧e.get 1=.p s.nb 0∧e.get 3=.i .i64 ((1+((n.kids.take i).map nodesI).sum:Nat):Int)∧e.get 4=.i .i64 (i:Nat)) ?_ n.kids.length _ _ ?_
 · rintro x e q ⟨i,hix,rfl,g1,g3,g4⟩
   by_cases h:i < n.kids.length
   · have f1:((i:Int) < (n.kids.length:Int))=True:=eq_true (by omega)
     obtain ⟨y,hy⟩:∃ y,n.kids[i]? = some y:=⟨_,List.getElem?_eq_getElem h⟩
     have hym:=List.mem_of_getElem? hy
     have hgy:=Iu hy
     have hyb:=JK hym
     have hI:=ih y hym (ho.kids.1 y hym) (by omega) q H1.wf
     have hw1:=AR (show i+1 < 2^63 by omega)
     have hsn:1+((n.kids.take (i+1)).map nodesI).sum=1+((n.kids.take i).map nodesI).sum+nodesI y:=by
      rw [List.take_add_one,hy]; simp; omega
     have hle:((n.kids.take (i+1)).map nodesI).sum≤(n.kids.map nodesI).sum:=by
      have:n.kids.map nodesI=(n.kids.take (i+1)).map nodesI++(n.kids.drop (i+1)).map nodesI:=by rw [← List.map_append,List.take_append_drop]
      rw [this,List.sum_append]; omega
     have hws:IntKind.i64.wrap (((1+((n.kids.take i).map nodesI).sum:Nat):Int)+((nodesI y:Nat):Int))=((1+((n.kids.take (i+1)).map nodesI).sum:Nat):Int):=by
      rw [hsn,← Int.natCast_add]
      exact GO (by omega)
     simp only [go_sem,AD,AA,AC,AB,KB_n,KB_x,Nat.reduceBEq,Nat.reduceAdd,Nat.reduceLT,Nat.reduceLeDiff,Nat.reduceEqDiff,reduceIte,Int.reduceEq,reduceCtorEq,g1,g3,g4,l3,List.length_map,f1,AG,hgy,nld,DS,hI,hws,hw1]
     exact ⟨x - 1,by omega,i+1,by omega,rfl,rfl⟩
   · have f1:((i:Int) < (n.kids.length:Int))=False:=eq_false (by omega)
     rw [List.take_of_length_le (by omega),← hne] at g3
     simp only [go_sem,AD,AA,AC,AB,KB_n,KB_x,Nat.reduceBEq,Nat.reduceAdd,Nat.reduceLT,Nat.reduceLeDiff,Nat.reduceEqDiff,reduceIte,Int.reduceEq,reduceCtorEq,g1,g3,g4,l3,List.length_map,f1]
     exact AL H1.over rfl rfl
 · simp only [go_sem,AD,AA,AC,AB,KB_n,KB_x,Nat.reduceBEq,Nat.reduceAdd,Nat.reduceLT,Nat.reduceLeDiff,Nat.reduceEqDiff,reduceIte,Int.reduceEq,reduceCtorEq]
   exact ⟨0,by omega,by simp,rfl⟩

theorem Gz {l:List IT} (h:l.length=0):DT l=[]:=by
 rw [List.length_eq_zero_iff] at h
 subst h; rfl
theorem JV (n:IN):DJ (0,n)=(match ruleK n.kind with | some r=>r.word | none=>[])++((if n.name=[] then [] else 32::n.name)++DT n.items):=line0 n
theorem Sd (n:IN) (ho:n.Ok) (ht:topR n=true) (hb:∀ y∈n.items,(y.parts.flatMap Bx).length < 2^59) (hL:(DJ (0,n)).length≤2^47) (s:St) (hw:Wf s):(lim prog).call Di [.agg n.cells] s=some (.s (DJ (0,n)),s):=by
 refine fn_W Hy rfl rfl ?_
 have hz0:wkZ AQ.cin [.agg n.cells]=[.agg n.cells]:=by simp [AQ,wkZ,wk,IN.cells,itx]
 rw [hz0]
 have e0:s.enter.nb=s.nb:=rfl
 have H1:=(Hp.begin hw).new (.cells 25 n.cells)
 obtain ⟨q,hq⟩:∃ q,s.enter.new (.cells 25 n.cells)=q:=⟨_,rfl⟩
 rw [hq,e0] at H1
 have l0:=H1.ld 0 (off:=0) (v:=.i .u8 (n.kind:Nat)) rfl rfl
 have l1:=H1.ld 0 (off:=1) (v:=.s n.name) rfl rfl
 have l2:=H1.ld 0 (off:=2) (v:=.ws false 2 (n.items.map IT.av)) rfl rfl
 have hr:∀ l:List Nat,KR s [.id] (.s l) (some ([.s l],q)):=fun l=>AL H1.over rfl (by simp only [BE,wkZ,wk])
 have hlen:(DT n.items).length≤(DJ (0,n)).length:=by rw [JV]; simp only [List.length_append]; omega
 have hT:=QW n.items ho.items.1 ho.items.2 hb (by omega) q H1.wf
 simp only [itx] at hT
 have hnl:=ho.nlen
 have hpi:∀ (l:List AV) u,Am.pub u (.ws false 2 l)=some (.ws false 2 l,u):=fun _ _=>rfl
 have hz:∀ j:Nat,n.kind=j→ldA q false 1 (.p s.nb 0)=some (.i .u8 (j:Int)):=fun j h=>by rw [← h]; exact l0
 have hcat:∀ w:List Nat,w.length < 20→Am.binOp .add (.s w) (.s n.name)=some (.s (w++n.name)):=fun w h=>Et (by omega)
 have hcat2:∀ w:List Nat,w.length < 20→Am.binOp .add (.s (w++n.name)) (.s (DT n.items))=some (.s (w++n.name++DT n.items)):=fun w h=>Et (by rw [List.length_append]; omega)
 have hcat3:∀ w:List Nat,w.length < 20→Am.binOp .add (.s w) (.s (DT n.items))=some (.s (w++DT n.items)):=fun w h=>Et (by omega)
 have hbig:(n.kind≠1∧n.kind≠2∧n.kind≠3∧n.kind≠4∧n.kind≠5∧n.kind≠6∧n.kind≠7∧n.kind≠8∧n.kind≠9)∨n.kind=1∨n.kind=2∨n.kind=3∨n.kind=4∨n.kind=5∨n.kind=6∨n.kind=7∨n.kind=8∨n.kind=9:=by omega
 rcases hbig with hk | hk | hk | hk | hk | hk | hk | hk | hk | hk
 · exfalso
   unfold topR at ht
   split at ht<;>first | omega | cases ht
 · have l0:ldA q false 1 (.p s.nb 0)=some (.i .u8 1):=hz 1 hk
   simp only [topR,hk,Bool.and_eq_true,decide_eq_true_eq] at ht
   have hLn:DJ (0,n)=[115,107,105,112]:=by rw [JV,hk,ht.1,Gz ht.2.1]; rfl
   rw [hLn]
   simp only [AQ,go_sem,AD,AA,AC,AB,KB_n,KB_x,Nat.reduceBEq,Nat.reduceAdd,Nat.reduceLT,Nat.reduceLeDiff,Nat.reduceEqDiff,reduceIte,Int.reduceEq,reduceCtorEq,nc4,e0,hq,l0]
   exact hr _
 · have l0:ldA q false 1 (.p s.nb 0)=some (.i .u8 2):=hz 2 hk
   simp only [topR,hk,Bool.and_eq_true,decide_eq_true_eq] at ht
   have hLn:DJ (0,n)=[97,115,115,105,103,110,32]++n.name++DT n.items:=by rw [JV,hk,if_neg (OQ ht.1)]; simp [ruleK]
   rw [hLn]
   simp only [AQ,go_sem,AD,AA,AC,AB,KB_n,KB_x,Nat.reduceBEq,Nat.reduceAdd,Nat.reduceLT,Nat.reduceLeDiff,Nat.reduceEqDiff,reduceIte,Int.reduceEq,reduceCtorEq,nc4,e0,hq,l0]
   refine JS rfl ?_
   simp only [go_sem,AD,AA,AC,AB,KB_n,KB_x,Nat.reduceBEq,Nat.reduceAdd,Nat.reduceLT,Nat.reduceLeDiff,Nat.reduceEqDiff,reduceIte,Int.reduceEq,reduceCtorEq,l1,l2,hpi,hT,hcat [97,115,115,105,103,110,32] (by decide),hcat2 [97,115,115,105,103,110,32] (by decide)]
   refine Mz rfl (by simp only [go_sem,AD,AA,AC,AB,KB_n,KB_x,Nat.reduceBEq,Nat.reduceAdd,Nat.reduceLT,Nat.reduceLeDiff,Nat.reduceEqDiff,reduceIte,Int.reduceEq,reduceCtorEq]) (QI _) ⟨⟨_,rfl,l1⟩,⟨_,rfl,l1⟩,⟨_,rfl,l1⟩,⟨_,rfl,l1⟩,⟨_,rfl,l1⟩,⟨_,rfl,l1⟩,⟨_,rfl,l1⟩,trivial⟩ (JT ?_)
   simp only [go_sem,AD,AA,AC,AB,KB_n,KB_x,Nat.reduceBEq,Nat.reduceAdd,Nat.reduceLT,Nat.reduceLeDiff,Nat.reduceEqDiff,reduceIte,Int.reduceEq,reduceCtorEq]
   exact hr _
 · have l0:ldA q false 1 (.p s.nb 0)=some (.i .u8 3):=hz 3 hk
   simp only [topR,hk,Bool.and_eq_true,decide_eq_true_eq] at ht
   have hLn:DJ (0,n)=[99,97,108,108]++DT n.items:=by rw [JV,hk,ht.1]; rfl
   rw [hLn]
   simp only [AQ,go_sem,AD,AA,AC,AB,KB_n,KB_x,Nat.reduceBEq,Nat.reduceAdd,Nat.reduceLT,Nat.reduceLeDiff,Nat.reduceEqDiff,reduceIte,Int.reduceEq,reduceCtorEq,nc4,e0,hq,l0,l2,hpi,hT,hcat3 [99,97,108,108] (by decide)]
   exact hr _
 · have l0:ldA q false 1 (.p s.nb 0)=some (.i .u8 4):=hz 4 hk
   simp only [topR,hk,Bool.and_eq_true,decide_eq_true_eq] at ht
   have hLn:DJ (0,n)=[99,104,101,99,107]:=by rw [JV,hk,ht.1,Gz ht.2.1]; rfl
   rw [hLn]
   simp only [AQ,go_sem,AD,AA,AC,AB,KB_n,KB_x,Nat.reduceBEq,Nat.reduceAdd,Nat.reduceLT,Nat.reduceLeDiff,Nat.reduceEqDiff,reduceIte,Int.reduceEq,reduceCtorEq,nc4,e0,hq,l0]
   exact hr _
 · have l0:ldA q false 1 (.p s.nb 0)=some (.i .u8 5):=hz 5 hk
   simp only [topR,hk,Bool.and_eq_true,decide_eq_true_eq] at ht
   have hLn:DJ (0,n)=[115,101,113]:=by rw [JV,hk,ht.1,Gz ht.2]; rfl
   rw [hLn]
   simp only [AQ,go_sem,AD,AA,AC,AB,KB_n,KB_x,Nat.reduceBEq,Nat.reduceAdd,Nat.reduceLT,Nat.reduceLeDiff,Nat.reduceEqDiff,reduceIte,Int.reduceEq,reduceCtorEq,nc4,e0,hq,l0]
   exact hr _
 · have l0:ldA q false 1 (.p s.nb 0)=some (.i .u8 6):=hz 6 hk
   simp only [topR,hk,Bool.and_eq_true,decide_eq_true_eq] at ht
   have hLn:DJ (0,n)=[110,111,116]:=by rw [JV,hk,ht.1,Gz ht.2.1]; rfl
   rw [hLn]
   simp only [AQ,go_sem,AD,AA,AC,AB,KB_n,KB_x,Nat.reduceBEq,Nat.reduceAdd,Nat.reduceLT,Nat.reduceLeDiff,Nat.reduceEqDiff,reduceIte,Int.reduceEq,reduceCtorEq,nc4,e0,hq,l0]
   exact hr _
 · have l0:ldA q false 1 (.p s.nb 0)=some (.i .u8 7):=hz 7 hk
   simp only [topR,hk,Bool.and_eq_true,decide_eq_true_eq] at ht
   have hLn:DJ (0,n)=[105,102]:=by rw [JV,hk,ht.1,Gz ht.2.1]; rfl
   rw [hLn]
   simp only [AQ,go_sem,AD,AA,AC,AB,KB_n,KB_x,Nat.reduceBEq,Nat.reduceAdd,Nat.reduceLT,Nat.reduceLeDiff,Nat.reduceEqDiff,reduceIte,Int.reduceEq,reduceCtorEq,nc4,e0,hq,l0]
   exact hr _
 · have l0:ldA q false 1 (.p s.nb 0)=some (.i .u8 8):=hz 8 hk
   simp only [topR,hk,Bool.and_eq_true,decide_eq_true_eq] at ht
   have hLn:DJ (0,n)=[108,111,111,112]:=by rw [JV,hk,ht.1,Gz ht.2.1]; rfl
   rw [hLn]
   simp only [AQ,go_sem,AD,AA,AC,AB,KB_n,KB_x,Nat.reduceBEq,Nat.reduceAdd,Nat.reduceLT,Nat.reduceLeDiff,Nat.reduceEqDiff,reduceIte,Int.reduceEq,reduceCtorEq,nc4,e0,hq,l0]
   exact hr _
 · have l0:ldA q false 1 (.p s.nb 0)=some (.i .u8 9):=hz 9 hk
   simp only [topR,hk,Bool.and_eq_true,decide_eq_true_eq] at ht
   have hLn:DJ (0,n)=[101,97,99,104,32]++n.name++DT n.items:=by rw [JV,hk,if_neg (OQ ht.1)]; simp [ruleK]
   rw [hLn]
   simp only [AQ,go_sem,AD,AA,AC,AB,KB_n,KB_x,Nat.reduceBEq,Nat.reduceAdd,Nat.reduceLT,Nat.reduceLeDiff,Nat.reduceEqDiff,reduceIte,Int.reduceEq,reduceCtorEq,nc4,e0,hq,l0]
   refine JS rfl ?_
   simp only [go_sem,AD,AA,AC,AB,KB_n,KB_x,Nat.reduceBEq,Nat.reduceAdd,Nat.reduceLT,Nat.reduceLeDiff,Nat.reduceEqDiff,reduceIte,Int.reduceEq,reduceCtorEq,l1,l2,hpi,hT,hcat [101,97,99,104,32] (by decide),hcat2 [101,97,99,104,32] (by decide)]
   refine Mz rfl (by simp only [go_sem,AD,AA,AC,AB,KB_n,KB_x,Nat.reduceBEq,Nat.reduceAdd,Nat.reduceLT,Nat.reduceLeDiff,Nat.reduceEqDiff,reduceIte,Int.reduceEq,reduceCtorEq]) (QI _) ⟨⟨_,rfl,l1⟩,⟨_,rfl,l1⟩,⟨_,rfl,l1⟩,⟨_,rfl,l1⟩,⟨_,rfl,l1⟩,⟨_,rfl,l1⟩,⟨_,rfl,l1⟩,trivial⟩ (JT ?_)
   simp only [go_sem,AD,AA,AC,AB,KB_n,KB_x,Nat.reduceBEq,Nat.reduceAdd,Nat.reduceLT,Nat.reduceLeDiff,Nat.reduceEqDiff,reduceIte,Int.reduceEq,reduceCtorEq]
   exact hr _
def LinB (n:IN):Prop:=∀ x∈allL n 0,(∀ y∈x.2.items,(y.parts.flatMap Bx).length < 2^59)∧(DJ x).length≤2^47
theorem Yf:∀ (n:IN) (d:Nat),allL n (d+1)=(allL n d).map fun x=>(x.1+1,x.2):=by
 refine IN.ind fun n ih d=>?_
 rw [D9,D9 n d,List.map_cons,List.map_flatten,List.map_map]
 congr 2
 refine List.map_congr_left fun k hk=>?_
 exact ih k hk (d+1)
theorem LinB.kid {n k:IN} (h:LinB n) (hk:k∈n.kids):LinB k:=by
 intro x hx
 have hm:(x.1+1,x.2)∈allL n 0:=by
  rw [D9]
  refine List.mem_cons_of_mem _ (List.mem_flatten.2 ⟨_,List.mem_map.2 ⟨k,hk,rfl⟩,?_⟩)
  rw [Yf]
  exact List.mem_map.2 ⟨x,hx,rfl⟩
 obtain ⟨h1,h2⟩:=h _ hm
 have h2:(DJ (x.1+1,x.2)).length≤2^47:=h2
 rw [Ru,List.length_cons] at h2
 exact ⟨h1,by have:(x.1,x.2)=x:=rfl; rw [this] at h2; omega⟩
theorem LinB.self {n:IN} (h:LinB n):(∀ y∈n.items,(y.parts.flatMap Bx).length < 2^59)∧(DJ (0,n)).length≤2^47:=h (0,n) (by rw [D9]; simp)
theorem LM (n:IN):(linesN n).length=nodesI n:=by unfold linesN; rw [List.length_map,Lu]
def Iv (n:IN) (i:Nat):List (List Nat):=DJ (0,n)::((n.kids.take i).map fun k=>(linesN k).map fun l=>32::l).flatten
theorem NQ {n k:IN} {i:Nat} (h:n.kids[i]? = some k):Iv n (i+1)=Iv n i++(linesN k).map fun l=>32::l:=by
 unfold Iv
 rw [List.take_add_one,h]
 simp
theorem Se {n:IN} {i:Nat} (h:n.kids.length≤i):Iv n i=linesN n:=by
 unfold Iv
 rw [List.take_of_length_le h,Pg]
theorem UZ (n:IN) (i:Nat):(Iv n i).length≤nodesI n:=by
 rw [← LM,Pg]
 unfold Iv
 have:n.kids.map (fun k=>(linesN k).map fun l=>32::l)=(n.kids.take i).map (fun k=>(linesN k).map fun l=>32::l)++(n.kids.drop i).map (fun k=>(linesN k).map fun l=>32::l):=by rw [← List.map_append,List.take_append_drop]
 rw [this,List.flatten_append,List.length_cons,List.length_cons,List.length_append]
 omega
theorem QZ {n:IN} (h:LinB n):∀ l∈linesN n,l.length≤2^47:=fun l hl=>by
 obtain ⟨x,hx,rfl⟩:=List.mem_map.1 hl
 exact (h x hx).2
theorem Qa:∀ n:IN,n.Ok→mayI n=true→LinB n→nodesI n < 2^35→∀ s,Wf s→(lim prog).call Cg [.agg n.cells] s=some (tx (linesN n),s):=by
 refine IN.ind fun n ih ho hm hB hN s hw=>?_
 rw [Ug,Bool.and_eq_true,List.all_eq_true] at hm
 refine fn_W HU rfl rfl ?_
 have hz0:wkZ BS.cin [.agg n.cells]=[.agg n.cells]:=by simp [BS,wkZ,wk,IN.cells,itx]
 rw [hz0]
 have e0:s.enter.nb=s.nb:=rfl
 have H1:=(Hp.begin hw).new (.cells 25 n.cells)
 obtain ⟨q1,hq1⟩:∃ q1,s.enter.new (.cells 25 n.cells)=q1:=⟨_,rfl⟩
 rw [hq1,e0] at H1
 have lw:=H1.ldw (m:=4) 0 rfl rfl
 have hkl:=ho.kids.2
 have h1:=Sd n ho hm.2 hB.self.1 hB.self.2 q1 H1.wf
 have hal:∀ l:List Nat,Ak 1 [AV.s l]=true:=fun _=>rfl
 simp only [BS,go_sem,AD,AA,AC,AB,KB_n,KB_x,Nat.reduceBEq,Nat.reduceAdd,Nat.reduceLT,Nat.reduceLeDiff,Nat.reduceEqDiff,reduceIte,Int.reduceEq,reduceCtorEq,nc4,e0,hq1,lw,DS,h1,hal]
 refine BP (fun x e q=>∃ (i:Nat) (a:AV),i+x=n.kids.length∧Hp s q s.en [⟨1,9,a,(Iv n i).map .s,true⟩] [(s.nb,.cells 25 n.cells)]∧e.get 1=.p s.nb 0∧e.get 3=a∧e.get 4=.i .i64 (i:Nat)) ?_ n.kids.length _ _ ?_
 · rintro x e q ⟨i,a,hix,H,g1,g3,g4⟩
   have l3:=H.ld 0 (off:=3) (v:=.ws false 4 (n.kids.map IN.av)) rfl rfl
   by_cases h:i < n.kids.length
   · have f1:((i:Int) < (n.kids.length:Int))=True:=eq_true (by omega)
     obtain ⟨y,hy⟩:∃ y,n.kids[i]? = some y:=⟨_,List.getElem?_eq_getElem h⟩
     have hym:=List.mem_of_getElem? hy
     have hgy:=Iu hy
     have hyb:=JK hym
     have hyB:=hB.kid hym
     have hI:=ih y hym (ho.kids.1 y hym) (hm.1 y hym) hyB (by omega) q H.wf
     have hw1:=AR (show i+1 < 2^63 by omega)
     have hyl:=LM y
     have hsm:=QZ hyB
     have hle:=UZ n (i+1)
     rw [NQ hy,List.length_append,List.length_map] at hle
     simp only [go_sem,AD,AA,AC,AB,KB_n,KB_x,Nat.reduceBEq,Nat.reduceAdd,Nat.reduceLT,Nat.reduceLeDiff,Nat.reduceEqDiff,reduceIte,Int.reduceEq,reduceCtorEq,g1,g3,g4,l3,List.length_map,f1,AG,hgy,nld,DS,hI]
     refine BP (fun z e q=>∃ (j:Nat) (a:AV),j+z=(linesN y).length∧Hp s q s.en [⟨1,9,a,(Iv n i++((linesN y).take j).map fun l=>32::l).map .s,true⟩] [(s.nb,.cells 25 n.cells)]∧e.get 1=.p s.nb 0∧e.get 3=a∧e.get 4=.i .i64 (i:Nat)∧e.get 5=tx (linesN y)∧e.get 6=.i .i64 (j:Nat)) ?_ (linesN y).length _ _ ?_
     · clear g1 g3 g4 H l3 hI
       rintro z e q ⟨j,a,hjz,H,g1,g3,g4,g5,g6⟩
       by_cases hj:j < (linesN y).length
       · have f2:((j:Int) < ((linesN y).length:Int))=True:=eq_true (by omega)
         obtain ⟨l,hl⟩:∃ l,(linesN y)[j]? = some l:=⟨_,List.getElem?_eq_getElem hj⟩
         have hgl:((linesN y).map AV.s)[j]? = some (.s l):=by rw [List.getElem?_map,hl]; rfl
         have hls:=hsm l (List.mem_of_getElem? hl)
         have hw2:=AR (show j+1 < 2^63 by omega)
         have c1:Am.binOp .add (.s [32]) (.s l)=some (.s (32::l)):=Et (by simp; omega)
         obtain ⟨a',q3,d3,H3,n3,_⟩:=H.app 0 (y:=.sl 1 [.s (32::l)] .full) (ys:=[.s (32::l)]) rfl rfl (by simp; omega)
         simp only [go_sem,AD,AA,AC,AB,KB_n,KB_x,Nat.reduceBEq,Nat.reduceAdd,Nat.reduceLT,Nat.reduceLeDiff,Nat.reduceEqDiff,reduceIte,Int.reduceEq,reduceCtorEq,g1,g3,g4,g5,g6,List.length_map,f2,AG,hgl,Dl,IA,c1,hal,d3,hw2]
         refine ⟨z - 1,by omega,j+1,a',by omega,?_,rfl,rfl⟩
         have:(Iv n i++((linesN y).take (j+1)).map fun l=>32::l).map AV.s=(Iv n i++((linesN y).take j).map fun l=>32::l).map .s++[.s (32::l)]:=by
          rw [List.take_add_one,hl]; simp
         rw [this]
         exact H3
       · have f2:((j:Int) < ((linesN y).length:Int))=False:=eq_false (by omega)
         rw [List.take_of_length_le (by omega),← NQ hy] at H
         simp only [go_sem,AD,AA,AC,AB,KB_n,KB_x,Nat.reduceBEq,Nat.reduceAdd,Nat.reduceLT,Nat.reduceLeDiff,Nat.reduceEqDiff,reduceIte,Int.reduceEq,reduceCtorEq,g1,g3,g4,g5,g6,List.length_map,f2,hw1]
         exact ⟨x - 1,by omega,i+1,a,by omega,H,rfl,rfl⟩
     · simp only [go_sem,AD,AA,AC,AB,KB_n,KB_x,Nat.reduceBEq,Nat.reduceAdd,Nat.reduceLT,Nat.reduceLeDiff,Nat.reduceEqDiff,reduceIte,Int.reduceEq,reduceCtorEq,g1,g3,g4]
       exact ⟨0,a,by omega,by simpa using H,rfl,rfl⟩
   · have f1:((i:Int) < (n.kids.length:Int))=False:=eq_false (by omega)
     rw [Se (by omega)] at H
     obtain ⟨a',q',d',t',H',n'⟩:=H.pub 0 rfl
     have dA:pubA q a=some (a',q'):=by
      rw [Ju (H.rows (i:=0) rfl)]; exact d'
     simp only [go_sem,AD,AA,AC,AB,KB_n,KB_x,Nat.reduceBEq,Nat.reduceAdd,Nat.reduceLT,Nat.reduceLeDiff,Nat.reduceEqDiff,reduceIte,Int.reduceEq,reduceCtorEq,g1,g3,g4,l3,List.length_map,f1,dA]
     refine AL H'.over ?_ ?_
     · simp only [BE]; exact t'.refs (Fa _)
     · simp only [BE,wkZ,t'.wk (IX _)]
 · simp only [go_sem,AD,AA,AC,AB,KB_n,KB_x,Nat.reduceBEq,Nat.reduceAdd,Nat.reduceLT,Nat.reduceLeDiff,Nat.reduceEqDiff,reduceIte,Int.reduceEq,reduceCtorEq]
   refine ⟨0,.sl 1 [.s (DJ (0,n))] .full,by omega,?_,rfl,rfl⟩
   exact H1.addFull 1 9 true JO.full
theorem Sf (n:IN) (ho:n.Ok) (hN:nodesI n < 2^35) (hB:mayI n=true→LinB n) (s:St) (hw:Wf s) :
    (lim prog).call Cx [.agg n.cells] s=some (if mayI n then .tup [tx (linesN n),.i .i64 0] else .tup [tx [],.i .i64 4],s):=by
 refine fn_W Hr rfl rfl ?_
 have hz0:wkZ A9.cin [.agg n.cells]=[.agg n.cells]:=by simp [A9,wkZ,wk,IN.cells,itx]
 rw [hz0]
 have e0:s.enter.nb=s.nb:=rfl
 have H1:=(Hp.begin hw).new (.cells 25 n.cells)
 obtain ⟨q1,hq1⟩:∃ q1,s.enter.new (.cells 25 n.cells)=q1:=⟨_,rfl⟩
 rw [hq1,e0] at H1
 have lw:=H1.ldw (m:=4) 0 rfl rfl
 have hm:=Pc n ho q1 H1.wf
 cases hmay:mayI n with
 | false =>
   rw [hmay] at hm
   simp only [A9,go_sem,AD,AA,AC,AB,KB_n,KB_x,Nat.reduceBEq,Nat.reduceAdd,Nat.reduceLT,Nat.reduceLeDiff,Nat.reduceEqDiff,reduceIte,Int.reduceEq,reduceCtorEq,nc4,e0,hq1,lw,DS,hm,Bool.false_eq_true,if_false]
   exact AL H1.over rfl rfl
 | true =>
   rw [hmay] at hm
   have hl:=Qa n ho hmay (hB hmay) hN q1 H1.wf
   simp only [A9,go_sem,AD,AA,AC,AB,KB_n,KB_x,Nat.reduceBEq,Nat.reduceAdd,Nat.reduceLT,Nat.reduceLeDiff,Nat.reduceEqDiff,reduceIte,Int.reduceEq,reduceCtorEq,nc4,e0,hq1,lw,DS,hm,hl,if_true]
   refine AL H1.over ?_ ?_
   · simp only [BE,AV.refs,AV.refs.go,Fa,Bool.or_self]
   · simp only [BE,wkZ,wk,IX]

def KeptR (s s':St) (v:AV) (L:List (List Nat)):Prop:=∃ q,Over s q∧Wf q∧s'={ q with lo:=min s.lo q.lo }∧RowH s.nt q ⟨1,9,v,L.map .s,true⟩∧A7 v≠none
theorem Ym {t0 t1:Nat} {s:St} {r:RA} (h:t0≤t1) (k:RowH t1 s r):RowH t0 s r:=by
 rcases k with k | ⟨k,v,t,h1,h2,h3⟩
 · exact .inl k
 · exact .inr ⟨k,v,t,h1,by omega,h3⟩
section
variable {s0 s:St} {n:En} {B:List (Nat×Box)}
theorem _root_.Go.Proofs.YtmnbfgfgjmmhfaaGreatDoor.Am.Hp.keptR (H:Hp s0 s n [] B) {s':St} {v:AV} {L:List (List Nat)} (h:KeptR s s' v L):Hp s0 s' n [⟨1,9,v,L.map .s,true⟩] B:=by
 obtain ⟨q,ov,hw,rfl,hr,_⟩:=h
 exact (H.kept ov hw).addRow ((Ym H.over.nt hr).mono (Nat.le_refl _) fun _ _=>rfl)
end
def WN (n:IN) (s:St) (r:AV) (s':St):Prop:=(mayI n=true∧∃ v,r=.tup [v,.i .i64 0]∧KeptR s s' v (linesN n))∨(mayI n=false∧r=.tup [.nsl,.i .i64 4]∧∃ q,Over s q∧Wf q∧s'={ q with lo:=min s.lo q.lo })
theorem show_K (n:IN) (ho:n.Ok) (hb:nodesI n < 2^36) (hL:mayI n=true→∀ x∈allL n 0,x.2.Ok∧QN x.2∧x.1 < 2^30∧(∀ y∈x.2.items,(y.parts.flatMap Bx).length < 2^59)∧(DJ x).length≤2^47) (s:St) (hw:Wf s) :
    ∃ r s',(lim prog).call Gr [.agg n.cells] s=some (r,s')∧WN n s r s':=by
 refine fn_K2 T8 rfl rfl rfl (by rfl) ?_
 have hz0:wkZ C8.cin [.agg n.cells]=[.agg n.cells]:=by simp [C8,wkZ,wk,IN.cells,itx]
 rw [hz0]
 have e0:s.enter.nb=s.nb:=rfl
 have H1:=(Hp.begin hw).new (.cells 25 n.cells)
 obtain ⟨q1,hq1⟩:∃ q1,s.enter.new (.cells 25 n.cells)=q1:=⟨_,rfl⟩
 have nb1:q1.nb=s.nb+1:=by rw [← hq1]; rfl
 rw [hq1,e0] at H1
 have lw:=H1.ldw (m:=4) 0 rfl rfl
 have hm:=Wx n ho q1 H1.wf
 cases hmay:mayI n with
 | false =>
   rw [hmay] at hm
   simp only [C8,go_sem,AD,AA,AC,AB,KB_n,KB_x,Nat.reduceBEq,Nat.reduceAdd,Nat.reduceLT,Nat.reduceLeDiff,Nat.reduceEqDiff,reduceIte,Int.reduceEq,reduceCtorEq,nc4,e0,hq1,lw,DS,hm]
   exact .inr ⟨hmay,by simp only [go_sem,AD,AA,AC,AB,KB_n,KB_x,Nat.reduceBEq,Nat.reduceAdd,Nat.reduceLT,Nat.reduceLeDiff,Nat.reduceEqDiff,reduceIte,Int.reduceEq,reduceCtorEq],q1,H1.over,H1.wf,rfl⟩
 | true =>
   rw [hmay] at hm
   have hL:=hL hmay
   obtain ⟨_,q2,d2,m,b1,b2,b3,b4,b5,b6,b7,b8,rfl,H2⟩:=Re H1
   simp only [List.cons_append,List.nil_append] at H2
   have hml:=(H2.box (i:=8) rfl).2
   have hmb:=(H2.box (i:=8) rfl).1
   have hsl:=(H2.box (i:=9) rfl).2
   have hms:=H2.bapart (i:=8) (j:=9) (by omega) rfl rfl
   simp only at hml hmb hsl hms
   have H3:=(H2.sel [] [8,9] (by simp) (by simp)).new (.cells 73 [.nm])
   obtain ⟨q3,hq3⟩:∃ q3,q2.new (.cells 73 [.nm])=q3:=⟨_,rfl⟩
   have nb3:q3.nb=q2.nb+1:=by rw [← hq3]; rfl
   rw [hq3] at H3
   simp only [pick,List.getElem?_cons_succ,List.getElem?_cons_zero] at H3
   obtain ⟨q4,d4,H4,n4,_⟩:=H3.st 0 (off:=0) (v:=.m m) rfl (by simp) ⟨rfl,rfl⟩
   simp only [List.set_cons_zero] at H4
   have H5:=H4.new (.cells 26 [.nsl])
   obtain ⟨q5,hq5⟩:∃ q5,q4.new (.cells 26 [.nsl])=q5:=⟨_,rfl⟩
   have nb5:q5.nb=q2.nb+2:=by rw [← hq5]; show q4.nb+1=_; omega
   have e4:q4.nb=q2.nb+1:=by omega
   rw [hq5,e4] at H5
   have lw5:=H5.ldw (m:=4) 3 rfl rfl
   obtain ⟨q6,d6,w6,nb6,nt6,bl6,bt6,bx6,ov6,fq6⟩:=RY (n:=n) (d:=0) H5.wf
   have ov6:=ov6 s H5.over
   simp only [Int.natCast_zero] at d6
   simp only [C8,go_sem,AD,AA,AC,AB,KB_n,KB_x,Nat.reduceBEq,Nat.reduceAdd,Nat.reduceLT,Nat.reduceLeDiff,Nat.reduceEqDiff,reduceIte,Int.reduceEq,reduceCtorEq,nc4,e0,hq1,lw,DS,hm,d2,hq3,d4,hq5,e4,lw5,d6]
   refine VU (g:=DL) (caps:=[.p (q5.nb+1) 0,.p q5.nb 0]) (by simp only [go_sem,AD,AA,AC,AB,KB_n,KB_x,Nat.reduceBEq,Nat.reduceAdd,Nat.reduceLT,Nat.reduceLeDiff,Nat.reduceEqDiff,reduceIte,Int.reduceEq,reduceCtorEq]) fun e' he'=>?_
   have z4:e'.get 4=.p q2.nb 0:=by rw [he']; simp only [go_sem,AD,AA,AC,AB,KB_n,KB_x,Nat.reduceBEq,Nat.reduceAdd,Nat.reduceLT,Nat.reduceLeDiff,Nat.reduceEqDiff,reduceIte,Int.reduceEq,reduceCtorEq]
   have z5:e'.get 5=.p (q2.nb+1) 0:=by rw [he']; simp only [go_sem,AD,AA,AC,AB,KB_n,KB_x,Nat.reduceBEq,Nat.reduceAdd,Nat.reduceLT,Nat.reduceLeDiff,Nat.reduceEqDiff,reduceIte,Int.reduceEq,reduceCtorEq]
   clear he'
   obtain ⟨q7,hq7⟩:∃ q7,q6.new (.loop 0 none e' [17,18] wA wC)=q7:=⟨_,rfl⟩
   have w7:Wf q7:=by rw [← hq7]; exact w6.new _
   have nb7:q7.nb=q6.nb+1:=by rw [← hq7]; rfl
   have ov7:Over s q7:=by rw [← hq7]; exact ov6.new _
   have bx7:∀ i,i < q6.nb→q7.box? i=q6.box? i:=fun i hi=>by rw [← hq7]; exact Co hi
   have bk7:q7.box? q6.nb=some (.loop 0 none e' [17,18] wA wC):=by rw [← hq7]; exact BW q6 _
   have hsn:s.nb < q2.nb:=by omega
   have B:=WT (s:=s) (L:=allL n 0) (ob:=q2.nb+1) (mb:=q2.nb) (mid:=m) (b1:=b1) (b2:=b2) (b3:=b3) (b4:=b4) (b5:=b5) (b6:=b6) (b7:=b7) (b8:=b8) (k1:=q6.nb) (e:=e') (O:=fun j=>j=q5.nb+1∨j=q5.nb) (by omega) (by omega) (by omega) (by omega) (by omega) (by omega) (by omega) z4 z5 hL (by rw [Lu]; exact hb) (fun j hj=>by omega) (fun j hj=>by omega)
   have c0:=(H5.box (i:=0) rfl).1
   have c1:=(H5.box (i:=1) rfl).1
   have c2:=(H5.box (i:=2) rfl).1
   simp only at c0 c1 c2
   obtain ⟨q8,d8,ov8,w8,nb8,nt8,hres8⟩:=QM n ho 0 (by omega) (s:=q7) (xb:=q5.nb+1) (lb:=q5.nb) (by rw [bx7 _ (by omega)]; exact bt6) (by rw [bx7 _ (by omega)]; exact bl6) (by omega) (by omega)
    s (q6.nb+1) (q6.nb+1) q6.nb _ _ (C0 (q6.nb+1) 0) (C0.safe _ _) (Nat.le_refl _) B ⟨bk7,by rw [bx7 _ (by omega),bx6 _ (by omega)]; exact c1,by rw [bx7 _ (by omega),bx6 _ (by omega)]; exact c2,.nsl,by rw [bx7 _ (by omega),bx6 _ (by omega)]; exact c0,.inl .nil,(fun k hk=>by simp [A7] at hk),.inr ⟨rfl,rfl⟩⟩ ov7 w7 (by omega) (by omega)
   rw [← hq7] at d8
   rcases hres8 with ⟨hk8,_,_,hrn⟩ | h
   case inr=>exact h.elim
   refine ⟨_,q8,d8,_,_,_,_,_,_,hk8,by decide,?_⟩
   have hlen:(alV (allL n 0)).length=(allL n 0).length:=by simp [alV]
   rw [hlen,List.take_length] at hrn
   have fq8:Fq (fun _=>False) q6.nb q8 (q8.setBox q6.nb .used):=Fq.setBox w8 (by omega) (.inl (Nat.le_refl _)) (by omega) _
   obtain ⟨q9,hq9⟩:∃ q9,q8.setBox q6.nb .used=q9:=⟨_,rfl⟩
   rw [hq9] at fq8
   have w9:Wf q9:=by rw [← hq9]; exact w8.setBox _ _
   have ov9:Over s q9:=by rw [← hq9]; exact Over.setBox ov8 (by omega) (by omega) _
   obtain ⟨a,k1,k2,_,k4⟩:=hrn
   have k1:q9.box? (q2.nb+1)=some (.cells 26 [a]):=by rw [fq8.box _ (by omega) (fun h=>h)]; exact k1
   have k2:=k2.mono fq8.tok.1 fun k hk=>fq8.tok.2 k (k2.tok_lt hk)
   have la:=Er (s:=q9) (v:=a) (off:=0) k1 rfl
   have hlr:∀ u,ldR u (some a)=some (a,u):=fun u=>by
    rcases k2 with (⟨h,_⟩ | ⟨h,_⟩ | h | h) | ⟨k,v,t,h,_⟩<;>simp only at h<;>rw [h]<;>rfl
   simp only [hq9,go_sem,AD,AA,AC,AB,KB_n,KB_x,Nat.reduceBEq,Nat.reduceAdd,Nat.reduceLT,Nat.reduceLeDiff,Nat.reduceEqDiff,reduceIte,Int.reduceEq,reduceCtorEq,z5,la,hlr]
   refine .inl ⟨hmay,a,by simp only [go_sem,AD,AA,AC,AB,KB_n,KB_x,Nat.reduceBEq,Nat.reduceAdd,Nat.reduceLT,Nat.reduceLeDiff,Nat.reduceEqDiff,reduceIte,Int.reduceEq,reduceCtorEq],q9,ov9,w9,rfl,k2,?_⟩
   rcases k4 with k4 | ⟨_,k4⟩
   · exact k4
   · rw [D9,List.map_cons] at k4
     cases k4
end Go.Proofs.YtmnbfgfgjmmhfaaGreatDoor

namespace Go.Proofs.YtmnbfgfgjmmhfaaGreatDoor
open Go.Proofs.YtmnbfgfgjmmhfaaGreatDoor.Am
attribute [local irreducible] W WO WE WQ WD Tr.get Tr.set
theorem Rm (p:PT):Fe p=if p.var&&!one1 p.text then some p.text else none:=by
 unfold Fe
 match h:p.text with
 | []=>simp [one1,h]
 | [c]=>simp only [one1,h,spc_k]
 | c::d::t=>simp [one1,h]
theorem fm_all (F:IN→List (List Nat)):∀ (n:IN) (d:Nat),(allL n d).flatMap (fun x=>F x.2)=F n++(n.kids.map fun k=>(allL k 0).flatMap fun x=>F x.2).flatten:=by
 refine IN.ind fun n ih d=>?_
 rw [D9,List.flatMap_cons,List.flatMap_def,List.map_flatten,List.map_map,List.flatten_flatten,List.map_map]
 congr 2
 refine List.map_congr_left fun k hk=>?_
 have h1:=ih k hk (d+1)
 have h2:=ih k hk 0
 rw [← h2] at h1
 simp only [Function.comp]
 rw [← h1,List.flatMap_def]
def allF (F:IN→List (List Nat)) (n:IN):List (List Nat):=(allL n 0).flatMap fun x=>F x.2
def fX (F:IN→List (List Nat)) (n:IN) (i:Nat):List (List Nat):=F n++((n.kids.take i).map (allF F)).flatten
theorem Rn {F:IN→List (List Nat)} {n k:IN} {i:Nat} (h:n.kids[i]? = some k):fX F n (i+1)=fX F n i++allF F k:=by
 unfold fX
 rw [List.take_add_one,h]
 simp
theorem Ua {F:IN→List (List Nat)} {n:IN} {i:Nat} (h:n.kids.length≤i):fX F n i=allF F n:=by
 unfold fX
 rw [List.take_of_length_le h]
 exact (fm_all F n 0).symm
theorem WC (F:IN→List (List Nat)) (n:IN) (i:Nat):(fX F n i).length≤(allF F n).length:=by
 rw [← Ua (Nat.le_refl n.kids.length)]
 unfold fX
 have:n.kids.map (allF F)=(n.kids.take i).map (allF F)++(n.kids.drop i).map (allF F):=by rw [← List.map_append,List.take_append_drop]
 rw [List.take_length,this,List.flatten_append,List.length_append,List.length_append,List.length_append]
 omega
theorem Ro {F:IN→List (List Nat)} {n k:IN} (h:k∈n.kids):(allF F k).length≤(allF F n).length:=by
 obtain ⟨i,hi,rfl⟩:=List.mem_iff_getElem.1 h
 have h1:=Rn (F:=F) (List.getElem?_eq_getElem hi)
 have h2:=WC F n (i+1)
 rw [h1,List.length_append] at h2
 omega
def readsI (n:IN):List (List Nat):=Cv n.items
theorem Mk : ∀ n:IN,n.Ok→(allF readsI n).length < 2^35→(allF setsX n).length < 2^35→∀ s,Wf s→(lim prog).call Bo [.agg n.cells] s=some (.tup [tx (allF readsI n),tx (allF setsX n)],s):=by
 refine IN.ind fun n ih ho hR hS s hw=>?_
 refine fn_W HV rfl rfl ?_
 have hz0:wkZ AO.cin [.agg n.cells]=[.agg n.cells]:=by simp [AO,wkZ,wk,IN.cells,itx]
 rw [hz0]
 have e0:s.enter.nb=s.nb:=rfl
 have H1:=(Hp.begin hw).new (.cells 25 n.cells)
 obtain ⟨q1,hq1⟩:∃ q1,s.enter.new (.cells 25 n.cells)=q1:=⟨_,rfl⟩
 rw [hq1,e0] at H1
 have l0:=H1.ld 0 (off:=0) (v:=.i .u8 (n.kind:Nat)) rfl rfl
 have l1:=H1.ld 0 (off:=1) (v:=.s n.name) rfl rfl
 have hkl:=ho.kids.2
 have hil:=ho.items.2
 have hal:∀ l:List Nat,Ak 1 [AV.s l]=true:=fun _=>rfl
 have hmain : ∀ (e:Tr) (q:St) (b:AV),Hp s q s.en [⟨1,9,.nsl,([]:List (List Nat)).map .s,true⟩,⟨1,9,b,(setsX n).map .s,true⟩] [(s.nb,.cells 25 n.cells)]→e.get 1=.p s.nb 0→e.get 4=.nsl→e.get 5=b →
     W (lim prog) (subC AO.body [1,1,1]) e q (KF s AO.res AO.cout (.tup [tx (allF readsI n),tx (allF setsX n)])):=by
  intro e q b H g1 g4 g5
  simp only [AO,subC,go_sem,AD,AA,AC,AB,KB_n,KB_x,Nat.reduceBEq,Nat.reduceAdd,Nat.reduceLT,Nat.reduceLeDiff,Nat.reduceEqDiff,reduceIte,Int.reduceEq,reduceCtorEq]
  refine BP (fun x e q=>∃ (i:Nat) (a:AV),i+x=n.items.length∧Hp s q s.en [⟨1,9,a,(Cv (n.items.take i)).map .s,true⟩,⟨1,9,b,(setsX n).map .s,true⟩] [(s.nb,.cells 25 n.cells)]∧e.get 1=.p s.nb 0∧e.get 4=a∧e.get 5=b∧e.get 6=.i .i64 (i:Nat)) ?_ n.items.length _ _ ?_
  · clear g1 g4 g5 H e q
    rintro x e q ⟨i,a,hix,H,g1,g4,g5,g6⟩
    have l2:=H.ld 0 (off:=2) (v:=.ws false 2 (n.items.map IT.av)) rfl rfl
    by_cases hi:i < n.items.length
    · have f1 : ((i:Int) < (n.items.length:Int))=True:=eq_true (by omega)
      obtain ⟨y,hy⟩:∃ y,n.items[i]? = some y:=⟨_,List.getElem?_eq_getElem hi⟩
      have hyo:=ho.items.1 y (List.mem_of_getElem? hy)
      have hgy:=It hy
      have hpl:=hyo.len
      have hw1:=AR (show i+1 < 2^63 by omega)
      simp only [go_sem,AD,AA,AC,AB,KB_n,KB_x,Nat.reduceBEq,Nat.reduceAdd,Nat.reduceLT,Nat.reduceLeDiff,Nat.reduceEqDiff,reduceIte,Int.reduceEq,reduceCtorEq,g1,g4,g5,g6,l2,List.length_map,f1]
      refine BP (fun z e q=>∃ (j:Nat) (a:AV),j+z=y.parts.length∧Hp s q s.en [⟨1,9,a,(Cv (n.items.take i)++(y.parts.take j).filterMap Fe).map .s,true⟩,⟨1,9,b,(setsX n).map .s,true⟩] [(s.nb,.cells 25 n.cells)]∧e.get 1=.p s.nb 0∧e.get 4=a∧e.get 5=b∧e.get 6=.i .i64 (i:Nat)∧e.get 7=.i .i64 (j:Nat)) ?_ y.parts.length _ _ ?_
      · clear g1 g4 g5 g6 l2 H e q a
        rintro z e q ⟨j,a,hjz,H,g1,g4,g5,g6,g7⟩
        have l2:=H.ld 0 (off:=2) (v:=.ws false 2 (n.items.map IT.av)) rfl rfl
        by_cases hj:j < y.parts.length
        · have f2:((j:Int) < (y.parts.length:Int))=True:=eq_true (by omega)
          obtain ⟨p,hp⟩:∃ p,y.parts[j]? = some p:=⟨_,List.getElem?_eq_getElem hj⟩
          have hpo:=hyo.parts p (List.mem_of_getElem? hp)
          have hgp:=Is hp
          have H4:=H.new (.cells 85 [.b false,.s [],.b false])
          obtain ⟨q4,hq4⟩:∃ q4,q.new (.cells 85 [.b false,.s [],.b false])=q4:=⟨_,rfl⟩
          rw [hq4] at H4
          obtain ⟨q5,d5,H5,n5,_⟩:=H4.stw 0 (m:=3) (v:=.agg p.cells) rfl rfl ⟨pc3 p,po3 p⟩
          have k0:=H5.ld 0 (off:=0) (v:=.b p.var) rfl rfl
          have k1:=H5.ld 0 (off:=1) (v:=.s p.text) rfl rfl
          have hwj:=AR (show j+1 < 2^63 by omega)
          have hsn:=JU hp
          have hle:=PH (j:=j) hy
          have hle2:=WC readsI n 0
          have hle3:(Cv n.items).length≤(allF readsI n).length:=by
           have:fX readsI n 0=Cv n.items:=by simp [fX,readsI]
           rw [this] at hle2; exact hle2
          obtain ⟨a',q6,d6,H6,n6,_⟩:=H5.app 0 (y:=.sl 1 [.s p.text] .full) (ys:=[.s p.text]) rfl rfl (by rw [List.length_map]; simp only [List.length_cons,List.length_nil]; omega)
          have hD5:=H5.dropB
          have hD6:=H6.dropB
          have hr0:Fe p=none→Hp s q5 s.en [⟨1,9,a,(Cv (n.items.take i)++(y.parts.take (j+1)).filterMap Fe).map .s,true⟩,⟨1,9,b,(setsX n).map .s,true⟩] [(s.nb,.cells 25 n.cells)]:=fun h=>by
           rw [hsn,h,Option.toList_none,List.append_nil]; exact hD5
          have hr1:Fe p=some p.text→Hp s q6 s.en [⟨1,9,a',(Cv (n.items.take i)++(y.parts.take (j+1)).filterMap Fe).map .s,true⟩,⟨1,9,b,(setsX n).map .s,true⟩] [(s.nb,.cells 25 n.cells)]:=fun h=>by
           rw [hsn,h,Option.toList_some,← List.append_assoc,← Kb]; exact hD6
          rw [Rm] at hr0 hr1
          have hal:=hal p.text
          clear hsn hle hle2 hle3
          by_cases hl1:p.text.length=1
          · obtain ⟨c,hc⟩:=List.length_eq_one_iff.1 hl1
            have e1:((([c]:List Nat).length:Int)=1)=True:=eq_true (by simp)
            have n0:CX (.i .i64 0)=some 0:=rfl
            have g0':([c]:List Nat)[0]? = some c:=rfl
            have e49:((49:Int)≤(c:Int))=(49≤c):=propext (by omega)
            have e57:((c:Int)≤57)=(c≤57):=propext (by omega)
            have e35:(([c]:List Nat)=[35])=(c=35):=by simp
            have e63:(([c]:List Nat)=[63])=(c=63):=by simp
            have ho1:one1 [c]=spcR c:=rfl
            rw [hc] at k1 hal d6 hr0 hr1
            rw [ho1] at hr0 hr1
            unfold spcR at hr0 hr1
            cases hv:p.var<;>rw [hv] at k0 hr0 hr1<;>rcases Classical.propComplete (49≤c) with h1 | h1<;>rcases Classical.propComplete (c≤57) with h2 | h2<;>rcases Classical.propComplete (c=35) with h3 | h3<;>rcases Classical.propComplete (c=63) with h4 | h4 <;>
             (simp only [go_sem,AD,AA,AC,AB,KB_n,KB_x,Nat.reduceBEq,Nat.reduceAdd,Nat.reduceLT,Nat.reduceLeDiff,Nat.reduceEqDiff,reduceIte,Int.reduceEq,reduceCtorEq,g1,g4,g5,g6,g7,l2,AG,hgy,ild0,List.length_map,f2,hgp,pld,Dw,pc3,hq4,d5,k0,k1,e1,n0,g0',e49,e57,e35,e63,h1,h2,h3,h4,hal,d6,hwj]
              first
              | exact ⟨z - 1,by omega,j+1,a,by omega,hr0 (by simp only [h1,h2,h3,h4]; rfl),rfl,rfl⟩
              | exact ⟨z - 1,by omega,j+1,a',by omega,hr1 (by simp only [h1,h2,h3,h4]; rfl),rfl,rfl⟩)
          · have e1:((p.text.length:Int)=1)=False:=eq_false (by omega)
            rw [UW hl1] at hr0 hr1
            cases hv:p.var<;>rw [hv] at k0 hr0 hr1 <;>
             (simp only [go_sem,AD,AA,AC,AB,KB_n,KB_x,Nat.reduceBEq,Nat.reduceAdd,Nat.reduceLT,Nat.reduceLeDiff,Nat.reduceEqDiff,reduceIte,Int.reduceEq,reduceCtorEq,g1,g4,g5,g6,g7,l2,AG,hgy,ild0,List.length_map,f2,hgp,pld,Dw,pc3,hq4,d5,k0,k1,e1,hal,d6,hwj]
              first
              | exact ⟨z - 1,by omega,j+1,a,by omega,hr0 rfl,rfl,rfl⟩
              | exact ⟨z - 1,by omega,j+1,a',by omega,hr1 rfl,rfl,rfl⟩)
        · have f2:((j:Int) < (y.parts.length:Int))=False:=eq_false (by omega)
          rw [show y.parts.take j=y.parts from List.take_of_length_le (by omega),← Ji hy] at H
          simp only [go_sem,AD,AA,AC,AB,KB_n,KB_x,Nat.reduceBEq,Nat.reduceAdd,Nat.reduceLT,Nat.reduceLeDiff,Nat.reduceEqDiff,reduceIte,Int.reduceEq,reduceCtorEq,g1,g4,g5,g6,g7,l2,AG,hgy,ild0,List.length_map,f2,hw1]
          exact ⟨x - 1,by omega,i+1,a,by omega,H,rfl,rfl⟩
      · simp only [go_sem,AD,AA,AC,AB,KB_n,KB_x,Nat.reduceBEq,Nat.reduceAdd,Nat.reduceLT,Nat.reduceLeDiff,Nat.reduceEqDiff,reduceIte,Int.reduceEq,reduceCtorEq,g1,g4,g5,g6]
        exact ⟨0,a,by omega,by simpa using H,rfl,rfl⟩
    · have f1:((i:Int) < (n.items.length:Int))=False:=eq_false (by omega)
      rw [List.take_of_length_le (by omega)] at H
      simp only [go_sem,AD,AA,AC,AB,KB_n,KB_x,Nat.reduceBEq,Nat.reduceAdd,Nat.reduceLT,Nat.reduceLeDiff,Nat.reduceEqDiff,reduceIte,Int.reduceEq,reduceCtorEq,g1,g4,g5,g6,l2,List.length_map,f1]
      refine BP (fun x e q=>∃ (i:Nat) (a b:AV),i+x=n.kids.length∧Hp s q s.en [⟨1,9,a,(fX readsI n i).map .s,true⟩,⟨1,9,b,(fX setsX n i).map .s,true⟩] [(s.nb,.cells 25 n.cells)]∧e.get 1=.p s.nb 0∧e.get 4=a∧e.get 5=b∧e.get 10=.i .i64 (i:Nat)) ?_ n.kids.length _ _ ?_
      · clear g1 g4 g5 g6 l2 H e q a
        rintro x e q ⟨i,a,b,hix,H,g1,g4,g5,g10⟩
        have l3:=H.ld 0 (off:=3) (v:=.ws false 4 (n.kids.map IN.av)) rfl rfl
        by_cases h:i < n.kids.length
        · have f1:((i:Int) < (n.kids.length:Int))=True:=eq_true (by omega)
          obtain ⟨y,hy⟩:∃ y,n.kids[i]? = some y:=⟨_,List.getElem?_eq_getElem h⟩
          have hym:=List.mem_of_getElem? hy
          have hgy:=Iu hy
          have hr:=Ro (F:=readsI) hym
          have hs:=Ro (F:=setsX) hym
          have hI:=ih y hym (ho.kids.1 y hym) (by omega) (by omega) q H.wf
          have hw1:=AR (show i+1 < 2^63 by omega)
          have hr2:=WC readsI n (i+1)
          have hs2:=WC setsX n (i+1)
          rw [Rn hy,List.length_append] at hr2 hs2
          obtain ⟨a',q2,d2,H2,n2,_⟩:=H.app 0 (y:=tx (allF readsI y)) (ys:=(allF readsI y).map .s) rfl rfl (by simp; omega)
          obtain ⟨b',q3,d3,H3,n3,_⟩:=H2.app 1 (y:=tx (allF setsX y)) (ys:=(allF setsX y).map .s) rfl rfl (by simp; omega)
          simp only [go_sem,AD,AA,AC,AB,KB_n,KB_x,Nat.reduceBEq,Nat.reduceAdd,Nat.reduceLT,Nat.reduceLeDiff,Nat.reduceEqDiff,reduceIte,Int.reduceEq,reduceCtorEq,g1,g4,g5,g10,l3,List.length_map,f1,AG,hgy,nld,DS,hI,d2,d3,hw1]
          refine ⟨x - 1,by omega,i+1,a',b',by omega,?_,rfl,rfl,rfl⟩
          rw [Rn hy,Rn hy,List.map_append,List.map_append]
          exact H3
        · have f1:((i:Int) < (n.kids.length:Int))=False:=eq_false (by omega)
          rw [Ua (by omega),Ua (by omega)] at H
          obtain ⟨a',q2,d2,t2,H2,n2⟩:=H.pub 0 rfl
          have dA:pubA q a=some (a',q2):=by
           rw [Ju (H.rows (i:=0) rfl)]; exact d2
          obtain ⟨b',q3,d3,t3,H3,n3⟩:=H2.pub 1 rfl
          have dB:pubA q2 b=some (b',q3):=by
           rw [Ju (H2.rows (i:=1) rfl)]; exact d3
          simp only [go_sem,AD,AA,AC,AB,KB_n,KB_x,Nat.reduceBEq,Nat.reduceAdd,Nat.reduceLT,Nat.reduceLeDiff,Nat.reduceEqDiff,reduceIte,Int.reduceEq,reduceCtorEq,g1,g4,g5,g10,l3,List.length_map,f1,dA,dB]
          have ra:a'.refs=false:=t2.refs (Fa _)
          have rb:b'.refs=false:=t3.refs (Fa _)
          refine AL H3.over ?_ ?_
          · simp only [BE,AV.refs,AV.refs.go,ra,rb,Bool.or_self]
          · simp only [BE,wkZ,t2.wk (IX _),t3.wk (IX _)]
      · simp only [go_sem,AD,AA,AC,AB,KB_n,KB_x,Nat.reduceBEq,Nat.reduceAdd,Nat.reduceLT,Nat.reduceLeDiff,Nat.reduceEqDiff,reduceIte,Int.reduceEq,reduceCtorEq,g1,g4,g5]
        exact ⟨0,a,b,by omega,by simpa [fX,readsI] using H,rfl,rfl,rfl⟩
  · simp only [go_sem,AD,AA,AC,AB,KB_n,KB_x,Nat.reduceBEq,Nat.reduceAdd,Nat.reduceLT,Nat.reduceLeDiff,Nat.reduceEqDiff,reduceIte,Int.reduceEq,reduceCtorEq,g1,g4,g5]
    exact ⟨0,.nsl,by omega,by simpa [Cv] using H,rfl,rfl⟩
 have eb:((n.kind:Int)=2)=(n.kind=2):=propext (by omega)
 have e9:((n.kind:Int)=9)=(n.kind=9):=propext (by omega)
 show W (lim prog) (.seq (subC AO.body [0]) (.seq (subC AO.body [1,0]) (.seq (subC AO.body [1,1,0]) (subC AO.body [1,1,1])))) _ _ _
 refine FG (fun e q=>q=q1∧e.get 1=.p s.nb 0) ?_ ?_
 · simp only [AO,subC,go_sem,AD,AA,AC,AB,KB_n,KB_x,Nat.reduceBEq,Nat.reduceAdd,Nat.reduceLT,Nat.reduceLeDiff,Nat.reduceEqDiff,reduceIte,Int.reduceEq,reduceCtorEq,nc4,e0,hq1]
 rintro e q ⟨rfl,g1⟩
 refine FG (fun e q'=>q'=q∧e.get 1=.p s.nb 0∧e.get 4=.nsl∧e.get 5=.nsl) ?_ ?_
 · simp only [AO,subC,go_sem,AD,AA,AC,AB,KB_n,KB_x,Nat.reduceBEq,Nat.reduceAdd,Nat.reduceLT,Nat.reduceLeDiff,Nat.reduceEqDiff,reduceIte,Int.reduceEq,reduceCtorEq,g1]
 clear g1 e
 rintro e q' ⟨rfl,g1,g4,g5⟩
 have HN:=(H1.addFull 1 9 (a:=.nsl) (xs:=[]) true .nil).addFull 1 9 (a:=.nsl) (xs:=[]) true .nil
 refine FG (fun e q=>∃ b,Hp s q s.en [⟨1,9,.nsl,([]:List (List Nat)).map .s,true⟩,⟨1,9,b,(setsX n).map .s,true⟩] [(s.nb,.cells 25 n.cells)]∧e.get 1=.p s.nb 0∧e.get 4=.nsl∧e.get 5=b) ?_ fun e q ⟨b,H,h1,h4,h5⟩=>hmain e q b H h1 h4 h5
 obtain ⟨b,q3,d3,H3,n3,_⟩:=HN.app 1 (y:=.sl 1 [.s n.name] .full) (ys:=[.s n.name]) rfl rfl (by simp)
 have hal:=hal n.name
 rcases Classical.propComplete (n.kind=2) with h2 | h2<;>rcases Classical.propComplete (n.kind=9) with h9 | h9 <;>
  (simp only [AO,subC,go_sem,AD,AA,AC,AB,KB_n,KB_x,Nat.reduceBEq,Nat.reduceAdd,Nat.reduceLT,Nat.reduceLeDiff,Nat.reduceEqDiff,reduceIte,Int.reduceEq,reduceCtorEq,g1,g4,g5,l0,l1,eb,e9,h2,h9,hal,d3]
   first
   | exact ⟨_,by rw [show setsX n=[n.name] by simp [setsX,h2,h9]]; exact H3,rfl⟩
   | exact ⟨_,by rw [show setsX n=[] by simp [setsX,h2,h9]]; exact HN,rfl⟩)
theorem WF {L M:List (List Nat)} (hL:L.Pairwise fun x y=>ltN x y=true) (hm:∀ x,x∈L↔x∈M) (hM:∀ l∈M,∀ n∈l,n < 256):L=LJ M :=
 NN hL (Vk M) fun x=>by rw [hm x]; exact (Vj hM x).symm

theorem W3 (p q:PT):∃ r,eqG [0,2,0] (.agg p.cells) (.agg q.cells)=some r∧(r=true↔p=q):=by
 refine ⟨_,rfl,?_⟩
 obtain ⟨a,b,c⟩:=p
 obtain ⟨a',b',c'⟩:=q
 simp [JD]
theorem G0 {α:Type} {a b:List α} (hl:a.length=b.length) {i:Nat} (hi:i=a.length) (h:a.take i=b.take i):a=b:=by
 subst hi
 rw [List.take_length,hl,List.take_length] at h
 exact h
theorem F7 {α:Type} {a b:List α} {i:Nat} {x y:α} (hx:a[i]? = some x) (hy:b[i]? = some y) (h:x≠y):a≠b:=fun hh=>by
 subst hh
 rw [hx] at hy
 exact h (Option.some.inj hy)
theorem Fl {α:Type} {a b:List α} {i:Nat} {x:α} (hx:a[i]? = some x) (hy:b[i]? = some x) (h:a.take i=b.take i):a.take (i+1)=b.take (i+1):=by
 rw [List.take_add_one,List.take_add_one,hx,hy,h]
theorem Sj (a b:List PT) (ha:a.length < 2^34) (hb:b.length < 2^34) (s:St) (hw:Wf s):∃ r,(lim prog).call BF [ptx a,ptx b] s=some (.b r,s)∧(r=true↔a=b):=by
 suffices h:∃ r s',(lim prog).call BF [ptx a,ptx b] s=some (r,s')∧∃ x,r=.b x∧s'=s∧(x=true↔a=b) by
  obtain ⟨r,s',h1,x,rfl,rfl,h2⟩:=h
  exact ⟨x,h1,h2⟩
 refine fn_G Ek rfl rfl ?_
 have hz0:wkZ Af.cin [ptx a,ptx b]=[ptx a,ptx b]:=by simp [Af,wkZ,wk,ptx]
 rw [hz0]
 have H1:=Hp.begin hw
 generalize hq:s.enter=q at H1
 have fin:∀ x:Bool,(x=true↔a=b)→∃ vs s2,(some ([AV.b x],q):Option (List AV×St))=some (vs,s2)∧∃ x',BE (wkZ [.id] vs)=.b x'∧leave s s2 (BE vs)=s∧(x'=true↔a=b):=fun x hx=>⟨_,_,rfl,x,rfl,H1.over.leave rfl,hx⟩
 by_cases hlen:a.length=b.length
 · have e0:((a.length:Int)≠(b.length:Int))=False:=eq_false (by omega)
   simp only [Af,go_sem,AD,AA,AC,AB,KB_n,KB_x,Nat.reduceBEq,Nat.reduceAdd,Nat.reduceLT,Nat.reduceLeDiff,Nat.reduceEqDiff,reduceIte,Int.reduceEq,reduceCtorEq,ptx,List.length_map,e0]
   refine BP (fun x e q'=>∃ i:Nat,i+x=a.length∧a.take i=b.take i∧q'=q∧e.get 0=ptx a∧e.get 1=ptx b∧e.get 12=.i .i64 (a.length:Nat)∧e.get 13=.i .i64 (i:Nat)) ?_ a.length _ _ ?_
   · rintro x e q' ⟨i,hix,heq,hqq,g0,g1,g12,g13⟩
     subst q'
     by_cases h:i < a.length
     · have h1:((i:Int) < (a.length:Int))=True:=eq_true (by omega)
       obtain ⟨y,hy⟩:∃ y,a[i]? = some y:=⟨_,List.getElem?_eq_getElem h⟩
       obtain ⟨z,hz⟩:∃ z,b[i]? = some z:=⟨_,List.getElem?_eq_getElem (by omega)⟩
       have hy2:=Is hy
       have hz2:=Is hz
       have hw1:=AR (show i+1 < 2^63 by omega)
       obtain ⟨r,hr,hyz⟩:=W3 y z
       cases r with
       | true =>
         have hyz:=hyz.1 rfl
         simp only [go_sem,AD,AA,AC,AB,KB_n,KB_x,Nat.reduceBEq,Nat.reduceAdd,Nat.reduceLT,Nat.reduceLeDiff,Nat.reduceEqDiff,reduceIte,Int.reduceEq,reduceCtorEq,g0,g1,g12,g13,h1,ptx,AG,hy2,hz2,pld,Dw,hr,hw1]
         refine ⟨rfl,rfl,x - 1,by omega,i+1,by omega,?_,rfl⟩
         subst hyz
         exact Fl hy hz heq
       | false =>
         have hne:y≠z:=fun hh=>by have:=hyz.2 hh; cases this
         simp only [go_sem,AD,AA,AC,AB,KB_n,KB_x,Nat.reduceBEq,Nat.reduceAdd,Nat.reduceLT,Nat.reduceLeDiff,Nat.reduceEqDiff,reduceIte,Int.reduceEq,reduceCtorEq,g0,g1,g12,g13,h1,ptx,AG,hy2,hz2,pld,Dw,hr]
         exact ⟨rfl,rfl,fin false ⟨fun hh=>(by cases hh),fun hh=>absurd hh (F7 hy hz hne)⟩⟩
     · have h1:((i:Int) < (a.length:Int))=False:=eq_false (by omega)
       simp only [go_sem,AD,AA,AC,AB,KB_n,KB_x,Nat.reduceBEq,Nat.reduceAdd,Nat.reduceLT,Nat.reduceLeDiff,Nat.reduceEqDiff,reduceIte,Int.reduceEq,reduceCtorEq,g0,g1,g12,g13,h1]
       exact fin true ⟨fun _=>G0 hlen (by omega) heq,fun _=>rfl⟩
   · simp only [go_sem,AD,AA,AC,AB,KB_n,KB_x,Nat.reduceBEq,Nat.reduceAdd,Nat.reduceLT,Nat.reduceLeDiff,Nat.reduceEqDiff,reduceIte,Int.reduceEq,reduceCtorEq]
     exact ⟨0,by omega,by simp,rfl,rfl,rfl⟩
 · have e0:((a.length:Int)≠(b.length:Int))=True:=eq_true (by omega)
   simp only [Af,go_sem,AD,AA,AC,AB,KB_n,KB_x,Nat.reduceBEq,Nat.reduceAdd,Nat.reduceLT,Nat.reduceLeDiff,Nat.reduceEqDiff,reduceIte,Int.reduceEq,reduceCtorEq,ptx,List.length_map,e0]
   exact fin false ⟨fun hh=>(by cases hh),fun hh=>absurd (congrArg List.length hh) hlen⟩
theorem Ml {f:Nat} (a b:List IT) (ha:a.length < 2^34) (hb:b.length < 2^34) (hf:∀ x∈a,∀ y∈b,∀ q,Wf q→∃ r,(lim prog).call f [.agg x.cells,.agg y.cells] q=some (.b r,q)∧(r=true↔x=y)) (s:St) (hw:Wf s) :
    ∃ r,(lim prog).call Aa [itx a,itx b,.fn f []] s=some (.b r,s)∧(r=true↔a=b):=by
 suffices h:∃ r s',(lim prog).call Aa [itx a,itx b,.fn f []] s=some (r,s')∧∃ x,r=.b x∧s'=s∧(x=true↔a=b) by
  obtain ⟨r,s',h1,x,rfl,rfl,h2⟩:=h
  exact ⟨x,h1,h2⟩
 refine fn_G CY rfl rfl ?_
 have hz0:wkZ AK.cin [itx a,itx b,.fn f []]=[itx a,itx b,.fn f []]:=by simp [AK,wkZ,wk,itx]
 rw [hz0]
 have H1:=Hp.begin hw
 generalize hq:s.enter=q at H1
 have fin:∀ (q:St),Over s q→∀ x:Bool,(x=true↔a=b)→∃ vs s2,(some ([AV.b x],q):Option (List AV×St))=some (vs,s2)∧∃ x',BE (wkZ [.id] vs)=.b x'∧leave s s2 (BE vs)=s∧(x'=true↔a=b):=fun q ho x hx=>⟨_,_,rfl,x,rfl,ho.leave rfl,hx⟩
 by_cases hlen:a.length=b.length
 · have e0:((a.length:Int)≠(b.length:Int))=False:=eq_false (by omega)
   simp only [AK,go_sem,AD,AA,AC,AB,KB_n,KB_x,Nat.reduceBEq,Nat.reduceAdd,Nat.reduceLT,Nat.reduceLeDiff,Nat.reduceEqDiff,reduceIte,Int.reduceEq,reduceCtorEq,itx,List.length_map,e0]
   refine BP (fun x e q'=>∃ i:Nat,i+x=a.length∧a.take i=b.take i∧Hp s q' s.en [] []∧e.get 1=itx b∧e.get 2=.fn f []∧e.get 15=itx a∧e.get 16=.i .i64 (a.length:Nat)∧e.get 17=.i .i64 (i:Nat)) ?_ a.length _ _ ?_
   · rintro x e q' ⟨i,hix,heq,H,g1,g2,g15,g16,g17⟩
     by_cases h:i < a.length
     · have h1:((i:Int) < (a.length:Int))=True:=eq_true (by omega)
       obtain ⟨y,hy⟩:∃ y,a[i]? = some y:=⟨_,List.getElem?_eq_getElem h⟩
       obtain ⟨z,hz⟩:∃ z,b[i]? = some z:=⟨_,List.getElem?_eq_getElem (by omega)⟩
       have hy2:=It hy
       have hz2:=It hz
       have hw1:=AR (show i+1 < 2^63 by omega)
       have cl:∀ y:IT,(AV.agg y.cells).cells=y.cells:=fun _=>rfl
       obtain ⟨q1,d1,K1,n1⟩:=H.adp (T:=78) (m:=2) (z:=[.nsl,.b false]) (v:=.agg y.cells) rfl ⟨ic2 y,io2 y⟩
       obtain ⟨q2,d2,K2,n2⟩:=K1.adp (T:=78) (m:=2) (z:=[.nsl,.b false]) (v:=.agg z.cells) rfl ⟨ic2 z,io2 z⟩
       rw [cl] at K1 K2
       rw [cl] at K2
       have l1:=K2.ldw (m:=2) 1 rfl (ic2 y)
       have l2:=K2.ldw (m:=2) 0 rfl (ic2 z)
       obtain ⟨r,hr,hyz⟩:=hf y (List.mem_of_getElem? hy) z (List.mem_of_getElem? hz) q2 K2.wf
       have hcv:Ej (lim prog) (.fn f []) [.agg y.cells,.agg z.cells] q2=some (.b r,q2):=hr
       have npy:=OL y
       have npz:=OL z
       cases r with
       | true =>
         have hyz:=hyz.1 rfl
         simp only [go_sem,AD,AA,AC,AB,KB_n,KB_x,Nat.reduceBEq,Nat.reduceAdd,Nat.reduceLT,Nat.reduceLeDiff,Nat.reduceEqDiff,reduceIte,Int.reduceEq,reduceCtorEq,g1,g2,g15,g16,g17,h1,itx,AG,hy2,hz2,ild,npy,npz,ic2,d1,d2,l1,l2,hcv,hw1]
         refine ⟨x - 1,by omega,i+1,by omega,?_,K2.dropB.dropB,rfl⟩
         subst hyz
         exact Fl hy hz heq
       | false =>
         have hne:y≠z:=fun hh=>by have:=hyz.2 hh; cases this
         simp only [go_sem,AD,AA,AC,AB,KB_n,KB_x,Nat.reduceBEq,Nat.reduceAdd,Nat.reduceLT,Nat.reduceLeDiff,Nat.reduceEqDiff,reduceIte,Int.reduceEq,reduceCtorEq,g1,g2,g15,g16,g17,h1,itx,AG,hy2,hz2,ild,npy,npz,ic2,d1,d2,l1,l2,hcv]
         exact fin _ K2.over false ⟨fun hh=>(by cases hh),fun hh=>absurd hh (F7 hy hz hne)⟩
     · have h1:((i:Int) < (a.length:Int))=False:=eq_false (by omega)
       simp only [go_sem,AD,AA,AC,AB,KB_n,KB_x,Nat.reduceBEq,Nat.reduceAdd,Nat.reduceLT,Nat.reduceLeDiff,Nat.reduceEqDiff,reduceIte,Int.reduceEq,reduceCtorEq,g1,g2,g15,g16,g17,h1]
       exact fin _ H.over true ⟨fun _=>G0 hlen (by omega) heq,fun _=>rfl⟩
   · simp only [go_sem,AD,AA,AC,AB,KB_n,KB_x,Nat.reduceBEq,Nat.reduceAdd,Nat.reduceLT,Nat.reduceLeDiff,Nat.reduceEqDiff,reduceIte,Int.reduceEq,reduceCtorEq]
     exact ⟨0,by omega,by simp,H1,rfl,rfl,rfl⟩
 · have e0:((a.length:Int)≠(b.length:Int))=True:=eq_true (by omega)
   simp only [AK,go_sem,AD,AA,AC,AB,KB_n,KB_x,Nat.reduceBEq,Nat.reduceAdd,Nat.reduceLT,Nat.reduceLeDiff,Nat.reduceEqDiff,reduceIte,Int.reduceEq,reduceCtorEq,itx,List.length_map,e0]
   exact fin _ H1.over false ⟨fun hh=>(by cases hh),fun hh=>absurd (congrArg List.length hh) hlen⟩
theorem M6 {f:Nat} (a b:List IN) (ha:a.length < 2^34) (hb:b.length < 2^34) (hf:∀ x∈a,∀ y∈b,∀ q,Wf q→∃ r,(lim prog).call f [.agg x.cells,.agg y.cells] q=some (.b r,q)∧(r=true↔x=y)) (s:St) (hw:Wf s) :
    ∃ r,(lim prog).call Ae [inx a,inx b,.fn f []] s=some (.b r,s)∧(r=true↔a=b):=by
 suffices h:∃ r s',(lim prog).call Ae [inx a,inx b,.fn f []] s=some (r,s')∧∃ x,r=.b x∧s'=s∧(x=true↔a=b) by
  obtain ⟨r,s',h1,x,rfl,rfl,h2⟩:=h
  exact ⟨x,h1,h2⟩
 refine fn_G C3 rfl rfl ?_
 have hz0:wkZ AM.cin [inx a,inx b,.fn f []]=[inx a,inx b,.fn f []]:=by simp [AM,wkZ,wk,inx]
 rw [hz0]
 have H1:=Hp.begin hw
 generalize hq:s.enter=q at H1
 have fin:∀ (q:St),Over s q→∀ x:Bool,(x=true↔a=b)→∃ vs s2,(some ([AV.b x],q):Option (List AV×St))=some (vs,s2)∧∃ x',BE (wkZ [.id] vs)=.b x'∧leave s s2 (BE vs)=s∧(x'=true↔a=b):=fun q ho x hx=>⟨_,_,rfl,x,rfl,ho.leave rfl,hx⟩
 by_cases hlen:a.length=b.length
 · have e0:((a.length:Int)≠(b.length:Int))=False:=eq_false (by omega)
   simp only [AM,go_sem,AD,AA,AC,AB,KB_n,KB_x,Nat.reduceBEq,Nat.reduceAdd,Nat.reduceLT,Nat.reduceLeDiff,Nat.reduceEqDiff,reduceIte,Int.reduceEq,reduceCtorEq,inx,List.length_map,e0]
   refine BP (fun x e q'=>∃ i:Nat,i+x=a.length∧a.take i=b.take i∧Hp s q' s.en [] []∧e.get 1=inx b∧e.get 2=.fn f []∧e.get 15=inx a∧e.get 16=.i .i64 (a.length:Nat)∧e.get 17=.i .i64 (i:Nat)) ?_ a.length _ _ ?_
   · rintro x e q' ⟨i,hix,heq,H,g1,g2,g15,g16,g17⟩
     by_cases h:i < a.length
     · have h1:((i:Int) < (a.length:Int))=True:=eq_true (by omega)
       obtain ⟨y,hy⟩:∃ y,a[i]? = some y:=⟨_,List.getElem?_eq_getElem h⟩
       obtain ⟨z,hz⟩:∃ z,b[i]? = some z:=⟨_,List.getElem?_eq_getElem (by omega)⟩
       have hy2:=Iu hy
       have hz2:=Iu hz
       have hw1:=AR (show i+1 < 2^63 by omega)
       have cl:∀ y:IN,(AV.agg y.cells).cells=y.cells:=fun _=>rfl
       obtain ⟨q1,d1,K1,n1⟩:=H.adp (T:=25) (m:=4) (z:=[.i .u8 0,.s [],.nsl,.nsl]) (v:=.agg y.cells) rfl ⟨nc4 y,no4 y⟩
       obtain ⟨q2,d2,K2,n2⟩:=K1.adp (T:=25) (m:=4) (z:=[.i .u8 0,.s [],.nsl,.nsl]) (v:=.agg z.cells) rfl ⟨nc4 z,no4 z⟩
       rw [cl] at K1 K2
       rw [cl] at K2
       have l1:=K2.ldw (m:=4) 1 rfl (nc4 y)
       have l2:=K2.ldw (m:=4) 0 rfl (nc4 z)
       obtain ⟨r,hr,hyz⟩:=hf y (List.mem_of_getElem? hy) z (List.mem_of_getElem? hz) q2 K2.wf
       have hcv:Ej (lim prog) (.fn f []) [.agg y.cells,.agg z.cells] q2=some (.b r,q2):=hr
       have npy:=DS y
       have npz:=DS z
       cases r with
       | true =>
         have hyz:=hyz.1 rfl
         simp only [go_sem,AD,AA,AC,AB,KB_n,KB_x,Nat.reduceBEq,Nat.reduceAdd,Nat.reduceLT,Nat.reduceLeDiff,Nat.reduceEqDiff,reduceIte,Int.reduceEq,reduceCtorEq,g1,g2,g15,g16,g17,h1,inx,AG,hy2,hz2,nld,npy,npz,nc4,d1,d2,l1,l2,hcv,hw1]
         refine ⟨x - 1,by omega,i+1,by omega,?_,K2.dropB.dropB,rfl⟩
         subst hyz
         exact Fl hy hz heq
       | false =>
         have hne:y≠z:=fun hh=>by have:=hyz.2 hh; cases this
         simp only [go_sem,AD,AA,AC,AB,KB_n,KB_x,Nat.reduceBEq,Nat.reduceAdd,Nat.reduceLT,Nat.reduceLeDiff,Nat.reduceEqDiff,reduceIte,Int.reduceEq,reduceCtorEq,g1,g2,g15,g16,g17,h1,inx,AG,hy2,hz2,nld,npy,npz,nc4,d1,d2,l1,l2,hcv]
         exact fin _ K2.over false ⟨fun hh=>(by cases hh),fun hh=>absurd hh (F7 hy hz hne)⟩
     · have h1:((i:Int) < (a.length:Int))=False:=eq_false (by omega)
       simp only [go_sem,AD,AA,AC,AB,KB_n,KB_x,Nat.reduceBEq,Nat.reduceAdd,Nat.reduceLT,Nat.reduceLeDiff,Nat.reduceEqDiff,reduceIte,Int.reduceEq,reduceCtorEq,g1,g2,g15,g16,g17,h1]
       exact fin _ H.over true ⟨fun _=>G0 hlen (by omega) heq,fun _=>rfl⟩
   · simp only [go_sem,AD,AA,AC,AB,KB_n,KB_x,Nat.reduceBEq,Nat.reduceAdd,Nat.reduceLT,Nat.reduceLeDiff,Nat.reduceEqDiff,reduceIte,Int.reduceEq,reduceCtorEq]
     exact ⟨0,by omega,by simp,H1,rfl,rfl,rfl⟩
 · have e0:((a.length:Int)≠(b.length:Int))=True:=eq_true (by omega)
   simp only [AM,go_sem,AD,AA,AC,AB,KB_n,KB_x,Nat.reduceBEq,Nat.reduceAdd,Nat.reduceLT,Nat.reduceLeDiff,Nat.reduceEqDiff,reduceIte,Int.reduceEq,reduceCtorEq,inx,List.length_map,e0]
   exact fin _ H1.over false ⟨fun hh=>(by cases hh),fun hh=>absurd (congrArg List.length hh) hlen⟩
theorem WI (x y:IT) (hx:x.parts.length < 2^34) (hy:y.parts.length < 2^34) (s:St) (hw:Wf s):∃ r,(lim prog).call Fz [.agg x.cells,.agg y.cells] s=some (.b r,s)∧(r=true↔x=y):=by
 suffices h:∃ r s',(lim prog).call Fz [.agg x.cells,.agg y.cells] s=some (r,s')∧∃ z,r=.b z∧s'=s∧(z=true↔x=y) by
  obtain ⟨r,s',h1,z,rfl,rfl,h2⟩:=h
  exact ⟨z,h1,h2⟩
 refine fn_G QK rfl rfl ?_
 have hz0:wkZ EI.cin [.agg x.cells,.agg y.cells]=[.agg x.cells,.agg y.cells]:=by simp [EI,wkZ,wk,IT.cells,ptx]
 rw [hz0]
 have e0:s.enter.nb=s.nb:=rfl
 have H1:=((Hp.begin hw).new (.cells 78 x.cells)).new (.cells 78 y.cells)
 have e1:(s.enter.new (.cells 78 x.cells)).nb=s.nb+1:=rfl
 obtain ⟨q,hq⟩:∃ q,(s.enter.new (.cells 78 x.cells)).new (.cells 78 y.cells)=q:=⟨_,rfl⟩
 rw [hq,e1,e0] at H1
 have fin:∀ z:Bool,(z=true↔x=y)→∃ vs s2,(some ([AV.b z],q):Option (List AV×St))=some (vs,s2)∧∃ z',BE (wkZ [.id] vs)=.b z'∧leave s s2 (BE vs)=s∧(z'=true↔x=y):=fun z hz=>⟨_,_,rfl,z,rfl,H1.over.leave rfl,hz⟩
 have a0:=H1.ld 1 (off:=0) (v:=ptx x.parts) rfl rfl
 have a1:=H1.ld 1 (off:=1) (v:=.b x.split) rfl rfl
 have b0:=H1.ld 0 (off:=0) (v:=ptx y.parts) rfl rfl
 have b1:=H1.ld 0 (off:=1) (v:=.b y.split) rfl rfl
 obtain ⟨r,hr,hrr⟩:=Sj x.parts y.parts hx hy q H1.wf
 obtain ⟨px,sx⟩:=x
 obtain ⟨py,sy⟩:=y
 simp only at *
 have hpx:∀ u,Am.pub u (ptx px)=some (ptx px,u):=fun _=>rfl
 have hpy:∀ u,Am.pub u (ptx py)=some (ptx py,u):=fun _=>rfl
 have hlx:∀ u,ldR u (some (ptx px))=some (ptx px,u):=fun _=>rfl
 have hly:∀ u,ldR u (some (ptx py))=some (ptx py,u):=fun _=>rfl
 by_cases hs:sx=sy
 · subst hs
   have e2:(sx==sx)=true:=by simp
   simp only [EI,go_sem,AD,AA,AC,AB,KB_n,KB_x,Nat.reduceBEq,Nat.reduceAdd,Nat.reduceLT,Nat.reduceLeDiff,Nat.reduceEqDiff,reduceIte,Int.reduceEq,reduceCtorEq,ic2,e0,e1,hq,a0,a1,b0,b1,e2,hlx,hly,hpx,hpy,hr]
   exact fin r (by rw [hrr]; simp)
 · have e2:(sx==sy)=false:=by simpa using hs
   simp only [EI,go_sem,AD,AA,AC,AB,KB_n,KB_x,Nat.reduceBEq,Nat.reduceAdd,Nat.reduceLT,Nat.reduceLeDiff,Nat.reduceEqDiff,reduceIte,Int.reduceEq,reduceCtorEq,ic2,e0,e1,hq,a0,a1,b0,b1,e2,hlx,hly,hpx,hpy,hr]
   exact fin false ⟨fun hh=>(by cases hh),fun hh=>absurd (congrArg IT.split hh) hs⟩
theorem Pe:∀ a:IN,a.Ok→∀ b:IN,b.Ok→∀ s,Wf s→∃ r,(lim prog).call Fx [.agg a.cells,.agg b.cells] s=some (.b r,s)∧(r=true↔a=b):=by
 refine IN.ind fun a ih ha b hb s hw=>?_
 suffices h:∃ r s',(lim prog).call Fx [.agg a.cells,.agg b.cells] s=some (r,s')∧∃ z,r=.b z∧s'=s∧(z=true↔a=b) by
  obtain ⟨r,s',h1,z,rfl,rfl,h2⟩:=h
  exact ⟨z,h1,h2⟩
 refine fn_G T9 rfl rfl ?_
 have hz0:wkZ Eg.cin [.agg a.cells,.agg b.cells]=[.agg a.cells,.agg b.cells]:=by simp [Eg,wkZ,wk,IN.cells,itx]
 rw [hz0]
 have e0:s.enter.nb=s.nb:=rfl
 have H1:=((Hp.begin hw).new (.cells 25 a.cells)).new (.cells 25 b.cells)
 have e1:(s.enter.new (.cells 25 a.cells)).nb=s.nb+1:=rfl
 obtain ⟨q,hq⟩:∃ q,(s.enter.new (.cells 25 a.cells)).new (.cells 25 b.cells)=q:=⟨_,rfl⟩
 rw [hq,e1,e0] at H1
 have fin:∀ z:Bool,(z=true↔a=b)→∃ vs s2,(some ([AV.b z],q):Option (List AV×St))=some (vs,s2)∧∃ z',BE (wkZ [.id] vs)=.b z'∧leave s s2 (BE vs)=s∧(z'=true↔a=b):=fun z hz=>⟨_,_,rfl,z,rfl,H1.over.leave rfl,hz⟩
 have a0:=H1.ld 1 (off:=0) (v:=.i .u8 (a.kind:Nat)) rfl rfl
 have a1:=H1.ld 1 (off:=1) (v:=.s a.name) rfl rfl
 have a2:=H1.ld 1 (off:=2) (v:=itx a.items) rfl rfl
 have a3:=H1.ld 1 (off:=3) (v:=inx a.kids) rfl rfl
 have b0:=H1.ld 0 (off:=0) (v:=.i .u8 (b.kind:Nat)) rfl rfl
 have b1:=H1.ld 0 (off:=1) (v:=.s b.name) rfl rfl
 have b2:=H1.ld 0 (off:=2) (v:=itx b.items) rfl rfl
 have b3:=H1.ld 0 (off:=3) (v:=inx b.kids) rfl rfl
 obtain ⟨r,hr,hrr⟩:=Ml (f:=Fz) a.items b.items ha.items.2 hb.items.2 (fun x hx y hy q hq=>WI x y (ha.items.1 x hx).len (hb.items.1 y hy).len q hq) q H1.wf
 obtain ⟨r2,hr2,hrr2⟩:=M6 (f:=Fx) a.kids b.kids ha.kids.2 hb.kids.2 (fun x hx y hy q hq=>ih x hx (ha.kids.1 x hx) y (hb.kids.1 y hy) q hq) q H1.wf
 have hpi:∀ (l:List IT) u,Am.pub u (itx l)=some (itx l,u):=fun _ _=>rfl
 have hpn:∀ (l:List IN) u,Am.pub u (inx l)=some (inx l,u):=fun _ _=>rfl
 have hli:∀ (l:List IT) u,ldR u (some (itx l))=some (itx l,u):=fun _ _=>rfl
 have hln:∀ (l:List IN) u,ldR u (some (inx l))=some (inx l,u):=fun _ _=>rfl
 have hall:a=b↔a.kind=b.kind∧a.name=b.name∧a.items=b.items∧a.kids=b.kids:=by
  cases a; cases b; simp [IN.kind,IN.name,IN.items,IN.kids]
 by_cases hk:a.kind=b.kind
 · have f1:((a.kind:Int)=(b.kind:Int))=True:=eq_true (by rw [hk])
   by_cases hn:a.name=b.name
   · have f2:(a.name=b.name)=True:=eq_true hn
     cases r with
     | true =>
       simp only [Eg,go_sem,AD,AA,AC,AB,KB_n,KB_x,Nat.reduceBEq,Nat.reduceAdd,Nat.reduceLT,Nat.reduceLeDiff,Nat.reduceEqDiff,reduceIte,Int.reduceEq,reduceCtorEq,nc4,e0,e1,hq,a0,a1,a2,a3,b0,b1,b2,b3,f1,f2,hpi,hpn,hli,hln,hr,hr2]
       exact fin r2 (by rw [hrr2,hall]; simp [hk,hn,hrr.1 rfl])
     | false =>
       have hne:¬ a.items=b.items:=fun hh=>by have:=hrr.2 hh; cases this
       simp only [Eg,go_sem,AD,AA,AC,AB,KB_n,KB_x,Nat.reduceBEq,Nat.reduceAdd,Nat.reduceLT,Nat.reduceLeDiff,Nat.reduceEqDiff,reduceIte,Int.reduceEq,reduceCtorEq,nc4,e0,e1,hq,a0,a1,a2,a3,b0,b1,b2,b3,f1,f2,hpi,hpn,hli,hln,hr]
       exact fin false ⟨fun hh=>(by cases hh),fun hh=>absurd (hall.1 hh).2.2.1 hne⟩
   · have f2:(a.name=b.name)=False:=eq_false hn
     simp only [Eg,go_sem,AD,AA,AC,AB,KB_n,KB_x,Nat.reduceBEq,Nat.reduceAdd,Nat.reduceLT,Nat.reduceLeDiff,Nat.reduceEqDiff,reduceIte,Int.reduceEq,reduceCtorEq,nc4,e0,e1,hq,a0,a1,b0,b1,f1,f2]
     exact fin false ⟨fun hh=>(by cases hh),fun hh=>absurd (hall.1 hh).2.1 hn⟩
 · have f1:((a.kind:Int)=(b.kind:Int))=False:=eq_false (by omega)
   simp only [Eg,go_sem,AD,AA,AC,AB,KB_n,KB_x,Nat.reduceBEq,Nat.reduceAdd,Nat.reduceLT,Nat.reduceLeDiff,Nat.reduceEqDiff,reduceIte,Int.reduceEq,reduceCtorEq,nc4,e0,e1,hq,a0,b0,f1]
   exact fin false ⟨fun hh=>(by cases hh),fun hh=>absurd (hall.1 hh).1 hk⟩

theorem KB_hit {n:Nat} {Q:Ex→Tr→St→Prop} {e:Tr} {s:St} (h:Q .n e s):KB n Q (.x n) e s:=by
 simp only [KB_x,go_sem,AD,AA,AC,AB,KB_n,KB_x,Nat.reduceBEq,Nat.reduceAdd,Nat.reduceLT,Nat.reduceLeDiff,Nat.reduceEqDiff,reduceIte,Int.reduceEq,reduceCtorEq]; exact h
theorem Yp {q:St} {id i:Nat} {M Z:List (List Nat)} {fz:Bool} {x:List Nat} (hx:M[i]? = some x) (hb:q.box? id=some (.row 9 ((M++Z).map .s) fz 0)):ldA q false 1 (.p id (0+i*1))=some (.s x):=by
 have hlt:=(List.getElem?_eq_some_iff.1 hx).1
 have:cut ((M++Z).map AV.s) (0+i*1) 1=some [.s x]:=by
  unfold cut
  have e1:(((M++Z).map AV.s).drop (0+i*1)).take 1=[.s x]:=by
   rw [Nat.zero_add,Nat.mul_one,List.take_one,List.head?_drop,List.getElem?_map,List.getElem?_append_left hlt,hx]
   rfl
  rw [e1]; rfl
 simp only [ldA,St.cells?,hb,this]
 rfl
theorem Sl (M:List (List Nat)) (hM:M.length < 2^36) (s:St) (hw:Wf s):∃ r s',(lim prog).call Bh [tx M] s=some (r,s')∧∃ L,r=tx L∧s'=s∧L.Pairwise (fun x y=>ltN x y=true)∧∀ x,x∈L↔x∈M:=by
 refine fn_G Gv rfl rfl ?_
 have hz0:wkZ Ah.cin [tx M]=[tx M]:=by simp [Ah,wkZ,wk,IX]
 rw [hz0]
 have H1:=Hp.begin hw
 generalize hq:s.enter=q at H1
 simp only [Ah,go_sem,AD,AA,AC,AB,KB_n,KB_x,Nat.reduceBEq,Nat.reduceAdd,Nat.reduceLT,Nat.reduceLeDiff,Nat.reduceEqDiff,reduceIte,Int.reduceEq,reduceCtorEq]
 refine BP (fun x e q=>∃ (i:Nat) (L:List (List Nat)) (a:AV) (fr:Bool),i+x=M.length∧L.length≤i∧L.Pairwise (fun x y=>ltN x y=true)∧(∀ x,x∈L↔x∈M.take i)∧Hp s q s.en [⟨1,9,a,L.map .s,fr⟩] []∧e.get 0=tx M∧e.get 3=a∧e.get 4=.i .i64 (i:Nat)) ?_ M.length _ _ ?_
 · rintro x e q' ⟨i,L,a,fr,hix,hll,hasc,hmem,H,g0,g3,g4⟩
   have hla:=V2 (H.rows (i:=0) rfl) q'
   simp only [List.length_map] at hla
   by_cases h:i < M.length
   · have h1:((i:Int) < (M.length:Int))=True:=eq_true (by omega)
     obtain ⟨z,hz⟩:∃ z,M[i]? = some z:=⟨_,List.getElem?_eq_getElem h⟩
     have hz2:=OK hz
     have hw1:=AR (show i+1 < 2^63 by omega)
     have htk:M.take (i+1)=M.take i++[z]:=by rw [List.take_add_one,hz]; rfl
     simp only [go_sem,AD,AA,AC,AB,KB_n,KB_x,Nat.reduceBEq,Nat.reduceAdd,Nat.reduceLT,Nat.reduceLeDiff,Nat.reduceEqDiff,reduceIte,Int.reduceEq,reduceCtorEq,g0,g3,g4,List.length_map,h1,hla]
     refine YR (M:=M) (i:=i) (x:=z) H (by omega) hz ?_ ?_ ?_ ?_ ?_
     · simp only [go_sem,AD,AA,AC,AB,KB_n,KB_x,Nat.reduceBEq,Nat.reduceAdd,Nat.reduceLT,Nat.reduceLeDiff,Nat.reduceEqDiff,reduceIte,Int.reduceEq,reduceCtorEq,g0]
     · simp only [go_sem,AD,AA,AC,AB,KB_n,KB_x,Nat.reduceBEq,Nat.reduceAdd,Nat.reduceLT,Nat.reduceLeDiff,Nat.reduceEqDiff,reduceIte,Int.reduceEq,reduceCtorEq,g3]
     · simp only [go_sem,AD,AA,AC,AB,KB_n,KB_x,Nat.reduceBEq,Nat.reduceAdd,Nat.reduceLT,Nat.reduceLeDiff,Nat.reduceEqDiff,reduceIte,Int.reduceEq,reduceCtorEq,g4]
     · simp only [go_sem,AD,AA,AC,AB,KB_n,KB_x,Nat.reduceBEq,Nat.reduceAdd,Nat.reduceLT,Nat.reduceLeDiff,Nat.reduceEqDiff,reduceIte,Int.reduceEq,reduceCtorEq]
     clear g0 g3 g4 e
     intro e b g0 g3 g4 g5 hbl hgt hle
     refine KB_hit ?_
     refine (YD _ _).2 ?_
     refine YS (M:=M) (i:=i) (b:=b) (x:=z) H (by omega) hz hbl g0 g3 g4 g5 hle ?_ ?_
     · intro e' y hy hyx g0 g3 g4
       simp only [go_sem,AD,AA,AC,AB,KB_n,KB_x,Nat.reduceBEq,Nat.reduceAdd,Nat.reduceLT,Nat.reduceLeDiff,Nat.reduceEqDiff,reduceIte,Int.reduceEq,reduceCtorEq,g0,g3,g4,hw1]
       refine ⟨x - 1,by omega,i+1,L,a,fr,by omega,by omega,hasc,fun u=>?_,H,rfl,rfl⟩
       rw [htk,List.mem_append,List.mem_singleton,hmem u]
       constructor
       · exact .inl
       · rintro (hu | rfl)
         · exact hu
         · rw [← hyx]; exact (hmem y).1 (List.mem_of_getElem? hy)
     · intro e' hle' g0 g3 g4 g5
       obtain ⟨a2,q2,d2,y2,_,⟨fr2,H2⟩,n2⟩:=H.slc 0 (lo:=none) (hi:=some (.i .i64 (b:Nat))) (p:=0) (q:=b) rfl (by simp only [Ck,AG,List.length_map]; rw [if_pos ⟨Nat.zero_le _,hbl⟩])
       obtain ⟨a3,q3,d3,H3,n3,_⟩:=H2.appN (es:=1) 9 (a:=.sl 1 [] .full) (xs:=[]) (.inr (.inr (.inl rfl))) y2 (by simp; omega)
       obtain ⟨a4,q4,d4,H4,n4,_⟩:=H3.app 0 (y:=.sl 1 [.s z] .full) (ys:=[.s z]) rfl (by simp [elems,St.ok]) (by simp; omega)
       obtain ⟨a5,q5,d5,y5,_,⟨fr5,H5⟩,n5⟩:=H4.slc 1 (lo:=some (.i .i64 (b:Nat))) (hi:=none) (p:=b) (q:=L.length) rfl (by simp only [Ck,AG,List.length_map]; rw [if_pos ⟨hbl,Nat.le_refl _⟩])
       obtain ⟨a6,q6,d6,H6,n6,_⟩:=H5.app 0 rfl y5 (by simp; omega)
       have H7:=H6.sel [0] [] (by simp) (by simp)
       have hpin:=putT hasc hbl hgt hle'
       have hal0:Ak 1 []=true:=rfl
       have hal1:Ak 1 [AV.s z]=true:=rfl
       simp only [go_sem,AD,AA,AC,AB,KB_n,KB_x,Nat.reduceBEq,Nat.reduceAdd,Nat.reduceLT,Nat.reduceLeDiff,Nat.reduceEqDiff,reduceIte,Int.reduceEq,reduceCtorEq,g0,g3,g4,g5,hal0,hal1,d2,d3,d4,d5,d6,AG,hz2,Dl,IA,hw1]
       refine ⟨x - 1,by omega,i+1,L.take b++([z]++L.drop b),a6,true,by omega,?_,hpin.1,fun u=>?_,?_,rfl,rfl⟩
       · simp; omega
       · rw [hpin.2 u,htk,List.mem_append,List.mem_singleton,hmem u]
       · have hxs:(([]++((L.map AV.s).drop 0).take (b - 0))++[AV.s z])++((L.map AV.s).drop b).take (L.length - b)=(L.take b++([z]++L.drop b)).map .s:=by
          have e1:((L.map AV.s).drop b).take (L.length - b)=(L.drop b).map .s:=by rw [List.take_of_length_le (by simp),List.map_drop]
          have e2:(([]:List AV)++((L.map AV.s).drop 0).take (b - 0))=(L.take b).map .s:=by rw [List.nil_append,List.drop_zero,Nat.sub_zero,List.map_take]
          rw [e1,e2,List.map_append,List.map_append,List.append_assoc]
          rfl
         have H8:Hp s q6 s.en [⟨1,9,a6,(([]++((L.map AV.s).drop 0).take (b - 0))++[AV.s z])++((L.map AV.s).drop b).take (L.length - b),true⟩] []:=H7
         rw [hxs] at H8
         exact H8
   · have h1:((i:Int) < (M.length:Int))=False:=eq_false (by omega)
     obtain ⟨a',q2,d',t',H',n'⟩:=H.pub 0 rfl
     have dA:pubA q' a=some (a',q2):=by
      rw [Ju (H.rows (i:=0) rfl)]; exact d'
     have href:a'.refs=false:=t'.refs (Fa _)
     simp only [go_sem,AD,AA,AC,AB,KB_n,KB_x,Nat.reduceBEq,Nat.reduceAdd,Nat.reduceLT,Nat.reduceLeDiff,Nat.reduceEqDiff,reduceIte,Int.reduceEq,reduceCtorEq,g0,g3,g4,List.length_map,h1,hla,dA]
     refine ⟨_,_,rfl,L,?_,?_,hasc,fun u=>?_⟩
     · simp only [BE,wkZ,t'.wk (IX _)]
     · exact H'.over.leave href
     · rw [hmem u,List.take_of_length_le (by omega)]
 · simp only [go_sem,AD,AA,AC,AB,KB_n,KB_x,Nat.reduceBEq,Nat.reduceAdd,Nat.reduceLT,Nat.reduceLeDiff,Nat.reduceEqDiff,reduceIte,Int.reduceEq,reduceCtorEq]
   exact ⟨0,[],.nsl,true,by omega,by simp,by simp,by simp,H1.addFull 1 9 true .nil,rfl,rfl⟩

theorem Qb:∀ n:IN,n.Ok→∀ d,∀ x∈allL n d,x.2.Ok:=by
 refine IN.ind fun n ih ho d x hx=>?_
 rw [D9,List.mem_cons] at hx
 rcases hx with rfl | hx
 · exact ho
 · rw [List.mem_flatten] at hx
   obtain ⟨l,hl,hx⟩:=hx
   obtain ⟨k,hk,rfl⟩:=List.mem_map.1 hl
   exact ih k hk (ho.kids.1 k hk) (d+1) x hx
theorem rdI_lt {n:IN} (ho:n.Ok):∀ l∈allF readsI n,∀ c∈l,c < 256:=by
 intro l hl c hc
 unfold allF at hl
 rw [List.mem_flatMap] at hl
 obtain ⟨x,hx,hl⟩:=hl
 have hx:=Qb n ho 0 x hx
 unfold readsI Cv at hl
 rw [List.mem_flatMap] at hl
 obtain ⟨y,hy,hl⟩:=hl
 obtain ⟨p,hp,hpl⟩:=List.mem_filterMap.1 hl
 have hpo:=(hx.items.1 y hy).parts p hp
 have:p.text=l:=by
  rw [Rm] at hpl
  generalize (p.var&&!one1 p.text)=b at hpl
  cases b with
  | true=>exact Option.some.inj hpl
  | false=>cases hpl
 rw [← this] at hc
 exact hpo.text.lt c hc
theorem stI_lt {n:IN} (ho:n.Ok):∀ l∈allF setsX n,∀ c∈l,c < 256:=by
 intro l hl c hc
 unfold allF at hl
 rw [List.mem_flatMap] at hl
 obtain ⟨x,hx,hl⟩:=hl
 have hx:=Qb n ho 0 x hx
 unfold setsX at hl
 split at hl
 · rw [List.mem_singleton] at hl; subst hl; exact hx.name.lt c hc
 · cases hl
theorem Pd {M:List (List Nat)} (hM:M.length < 2^36) (hl:∀ l∈M,∀ n∈l,n < 256) (s:St) (hw:Wf s):(lim prog).call Bh [tx M] s=some (tx (LJ M),s):=by
 obtain ⟨r,s',h,L,rfl,rfl,h1,h2⟩:=Sl M hM s hw
 rw [h,WF h1 h2 hl]
theorem Qc (n:IN) (ho:n.Ok) (hR:(allF readsI n).length < 2^35) (hS:(allF setsX n).length < 2^35) (s:St) (hw:Wf s):(lim prog).call Ce [.agg n.cells] s=some (tx (LJ (allF readsI n)),s):=by
 refine fn_W HT rfl rfl ?_
 have hz0:wkZ BR.cin [.agg n.cells]=[.agg n.cells]:=by simp [BR,wkZ,wk,IN.cells,itx]
 rw [hz0]
 have e0:s.enter.nb=s.nb:=rfl
 have H1:=(Hp.begin hw).new (.cells 25 n.cells)
 obtain ⟨q1,hq1⟩:∃ q1,s.enter.new (.cells 25 n.cells)=q1:=⟨_,rfl⟩
 rw [hq1,e0] at H1
 have lw:=H1.ldw (m:=4) 0 rfl rfl
 have h1:=Mk n ho hR hS q1 H1.wf
 have h2:=Pd (M:=allF readsI n) (by omega) (rdI_lt ho) q1 H1.wf
 simp only [BR,go_sem,AD,AA,AC,AB,KB_n,KB_x,Nat.reduceBEq,Nat.reduceAdd,Nat.reduceLT,Nat.reduceLeDiff,Nat.reduceEqDiff,reduceIte,Int.reduceEq,reduceCtorEq,nc4,e0,hq1,lw,DS,h1,h2]
 refine AL H1.over ?_ ?_
 · simp only [BE,AV.refs,Fa]
 · simp only [BE,wkZ,wk,IX]
theorem Sg (n:IN) (ho:n.Ok) (hR:(allF readsI n).length < 2^35) (hS:(allF setsX n).length < 2^35) (s:St) (hw:Wf s):(lim prog).call Cy [.agg n.cells] s=some (tx (LJ (allF setsX n)),s):=by
 refine fn_W Hs rfl rfl ?_
 have hz0:wkZ Ba.cin [.agg n.cells]=[.agg n.cells]:=by simp [Ba,wkZ,wk,IN.cells,itx]
 rw [hz0]
 have e0:s.enter.nb=s.nb:=rfl
 have H1:=(Hp.begin hw).new (.cells 25 n.cells)
 obtain ⟨q1,hq1⟩:∃ q1,s.enter.new (.cells 25 n.cells)=q1:=⟨_,rfl⟩
 rw [hq1,e0] at H1
 have lw:=H1.ldw (m:=4) 0 rfl rfl
 have h1:=Mk n ho hR hS q1 H1.wf
 have h2:=Pd (M:=allF setsX n) (by omega) (stI_lt ho) q1 H1.wf
 simp only [Ba,go_sem,AD,AA,AC,AB,KB_n,KB_x,Nat.reduceBEq,Nat.reduceAdd,Nat.reduceLT,Nat.reduceLeDiff,Nat.reduceEqDiff,reduceIte,Int.reduceEq,reduceCtorEq,nc4,e0,hq1,lw,DS,h1,h2]
 refine AL H1.over ?_ ?_
 · simp only [BE,AV.refs,Fa]
 · simp only [BE,wkZ,wk,IX]
theorem Ub (a b:List PT) (ha:a.length < 2^34) (hb:b.length < 2^34) (s:St) (hw:Wf s):∃ r,(lim prog).call C1 [.agg [ptx a,.i .i64 0],.agg [ptx b,.i .i64 0]] s=some (.b r,s)∧(r=true↔a=b):=by
 suffices h:∃ r s',(lim prog).call C1 [.agg [ptx a,.i .i64 0],.agg [ptx b,.i .i64 0]] s=some (r,s')∧∃ x,r=.b x∧s'=s∧(x=true↔a=b) by
  obtain ⟨r,s',h1,x,rfl,rfl,h2⟩:=h
  exact ⟨x,h1,h2⟩
 refine fn_G Hx rfl rfl ?_
 have hz0:wkZ BB.cin [.agg [ptx a,.i .i64 0],.agg [ptx b,.i .i64 0]]=[.agg [ptx a,.i .i64 0],.agg [ptx b,.i .i64 0]]:=by simp [BB,wkZ,wk,ptx]
 rw [hz0]
 have e0:s.enter.nb=s.nb:=rfl
 have H1:=((Hp.begin hw).new (.cells 102 [ptx a,.i .i64 0])).new (.cells 102 [ptx b,.i .i64 0])
 have e1:(s.enter.new (.cells 102 [ptx a,.i .i64 0])).nb=s.nb+1:=rfl
 obtain ⟨q,hq⟩:∃ q,(s.enter.new (.cells 102 [ptx a,.i .i64 0])).new (.cells 102 [ptx b,.i .i64 0])=q:=⟨_,rfl⟩
 rw [hq,e1,e0] at H1
 have c2:∀ x y:AV,[x,y].length=2:=fun _ _=>rfl
 have la:=H1.ld 1 (off:=0) (v:=.ws false 3 (a.map PT.av)) rfl rfl
 have lb:=H1.ld 0 (off:=0) (v:=.ws false 3 (b.map PT.av)) rfl rfl
 have fin:∀ x:Bool,(x=true↔a=b)→∃ vs s2,(some ([AV.b x],q):Option (List AV×St))=some (vs,s2)∧∃ x',BE (wkZ [.id] vs)=.b x'∧leave s s2 (BE vs)=s∧(x'=true↔a=b):=fun x hx=>⟨_,_,rfl,x,rfl,H1.over.leave rfl,hx⟩
 by_cases hlen:a.length=b.length
 · have f0:((a.length:Int)≠(b.length:Int))=False:=eq_false (by omega)
   simp only [BB,go_sem,AD,AA,AC,AB,KB_n,KB_x,Nat.reduceBEq,Nat.reduceAdd,Nat.reduceLT,Nat.reduceLeDiff,Nat.reduceEqDiff,reduceIte,Int.reduceEq,reduceCtorEq,c2,e0,e1,hq,la,lb,List.length_map,f0]
   refine BP (fun x e q'=>∃ i:Nat,i+x=a.length∧a.take i=b.take i∧q'=q∧e.get 2=.p s.nb 0∧e.get 3=.p (s.nb+1) 0∧e.get 5=.i .i64 (i:Nat)) ?_ a.length _ _ ?_
   · rintro x e q' ⟨i,hix,heq,rfl,g2,g3,g5⟩
     by_cases h:i < a.length
     · have h1:((i:Int) < (a.length:Int))=True:=eq_true (by omega)
       obtain ⟨y,hy⟩:∃ y,a[i]? = some y:=⟨_,List.getElem?_eq_getElem h⟩
       obtain ⟨z,hz⟩:∃ z,b[i]? = some z:=⟨_,List.getElem?_eq_getElem (by omega)⟩
       have hy2:=Is hy
       have hz2:=Is hz
       have hw1:=AR (show i+1 < 2^63 by omega)
       obtain ⟨r,hr,hyz⟩:=W3 y z
       cases r with
       | true =>
         have hyz:=hyz.1 rfl
         simp only [go_sem,AD,AA,AC,AB,KB_n,KB_x,Nat.reduceBEq,Nat.reduceAdd,Nat.reduceLT,Nat.reduceLeDiff,Nat.reduceEqDiff,reduceIte,Int.reduceEq,reduceCtorEq,g2,g3,g5,la,lb,List.length_map,h1,AG,hy2,hz2,pld,Dw,hr,hw1]
         refine ⟨rfl,rfl,x - 1,by omega,i+1,by omega,?_,rfl⟩
         subst hyz
         exact Fl hy hz heq
       | false =>
         have hne:y≠z:=fun hh=>by have:=hyz.2 hh; cases this
         simp only [go_sem,AD,AA,AC,AB,KB_n,KB_x,Nat.reduceBEq,Nat.reduceAdd,Nat.reduceLT,Nat.reduceLeDiff,Nat.reduceEqDiff,reduceIte,Int.reduceEq,reduceCtorEq,g2,g3,g5,la,lb,List.length_map,h1,AG,hy2,hz2,pld,Dw,hr]
         exact ⟨rfl,rfl,fin false ⟨fun hh=>(by cases hh),fun hh=>absurd hh (F7 hy hz hne)⟩⟩
     · have h1:((i:Int) < (a.length:Int))=False:=eq_false (by omega)
       simp only [go_sem,AD,AA,AC,AB,KB_n,KB_x,Nat.reduceBEq,Nat.reduceAdd,Nat.reduceLT,Nat.reduceLeDiff,Nat.reduceEqDiff,reduceIte,Int.reduceEq,reduceCtorEq,g2,g3,g5,la,List.length_map,h1]
       exact fin true ⟨fun _=>G0 hlen (by omega) heq,fun _=>rfl⟩
   · simp only [go_sem,AD,AA,AC,AB,KB_n,KB_x,Nat.reduceBEq,Nat.reduceAdd,Nat.reduceLT,Nat.reduceLeDiff,Nat.reduceEqDiff,reduceIte,Int.reduceEq,reduceCtorEq]
     exact ⟨0,by omega,by simp,rfl⟩
 · have f0:((a.length:Int)≠(b.length:Int))=True:=eq_true (by omega)
   simp only [BB,go_sem,AD,AA,AC,AB,KB_n,KB_x,Nat.reduceBEq,Nat.reduceAdd,Nat.reduceLT,Nat.reduceLeDiff,Nat.reduceEqDiff,reduceIte,Int.reduceEq,reduceCtorEq,c2,e0,e1,hq,la,lb,List.length_map,f0]
   exact fin false ⟨fun hh=>(by cases hh),fun hh=>absurd (congrArg List.length hh) hlen⟩
theorem Sh : ∀ a:IN,a.Ok→∀ b:IN,b.Ok→∀ s,Wf s→∃ r,(lim prog).call B4 [.agg a.cells,.agg b.cells] s=some (.b r,s)∧(r=true↔a=b):=by
 refine IN.ind fun a ih ha b hb s hw=>?_
 suffices h:∃ r s',(lim prog).call B4 [.agg a.cells,.agg b.cells] s=some (r,s')∧∃ z,r=.b z∧s'=s∧(z=true↔a=b) by
  obtain ⟨r,s',h1,z,rfl,rfl,h2⟩:=h
  exact ⟨z,h1,h2⟩
 refine fn_G Hu rfl rfl ?_
 have hz0:wkZ BA.cin [.agg a.cells,.agg b.cells]=[.agg a.cells,.agg b.cells]:=by simp [BA,wkZ,wk,IN.cells,itx]
 rw [hz0]
 have e0:s.enter.nb=s.nb:=rfl
 have H1:=((Hp.begin hw).new (.cells 25 a.cells)).new (.cells 25 b.cells)
 have e1:(s.enter.new (.cells 25 a.cells)).nb=s.nb+1:=rfl
 obtain ⟨q,hq⟩:∃ q,(s.enter.new (.cells 25 a.cells)).new (.cells 25 b.cells)=q:=⟨_,rfl⟩
 rw [hq,e1,e0] at H1
 have fin:∀ z:Bool,(z=true↔a=b)→∃ vs s2,(some ([AV.b z],q):Option (List AV×St))=some (vs,s2)∧∃ z',BE (wkZ [.id] vs)=.b z'∧leave s s2 (BE vs)=s∧(z'=true↔a=b):=fun z hz=>⟨_,_,rfl,z,rfl,H1.over.leave rfl,hz⟩
 have finF:a≠b→∃ vs s2,(some ([AV.b false],q):Option (List AV×St))=some (vs,s2)∧∃ z',BE (wkZ [.id] vs)=.b z'∧leave s s2 (BE vs)=s∧(z'=true↔a=b):=fun h=>fin false ⟨fun hh=>(by cases hh),fun hh=>absurd hh h⟩
 have a0:=H1.ld 1 (off:=0) (v:=.i .u8 (a.kind:Nat)) rfl rfl
 have a1:=H1.ld 1 (off:=1) (v:=.s a.name) rfl rfl
 have a2:=H1.ld 1 (off:=2) (v:=.ws false 2 (a.items.map IT.av)) rfl rfl
 have a3:=H1.ld 1 (off:=3) (v:=.ws false 4 (a.kids.map IN.av)) rfl rfl
 have b0:=H1.ld 0 (off:=0) (v:=.i .u8 (b.kind:Nat)) rfl rfl
 have b1:=H1.ld 0 (off:=1) (v:=.s b.name) rfl rfl
 have b2:=H1.ld 0 (off:=2) (v:=.ws false 2 (b.items.map IT.av)) rfl rfl
 have b3:=H1.ld 0 (off:=3) (v:=.ws false 4 (b.kids.map IN.av)) rfl rfl
 have hall:a=b↔a.kind=b.kind∧a.name=b.name∧a.items=b.items∧a.kids=b.kids:=by
  cases a; cases b; simp [IN.kind,IN.name,IN.items,IN.kids]
 have hia:=ha.items.2
 have hib:=hb.items.2
 have hka:=ha.kids.2
 have hkb:=hb.kids.2
 have eK:((a.kind:Int)≠(b.kind:Int))=(a.kind≠b.kind):=propext (by omega)
 have eI:((a.items.length:Int)≠(b.items.length:Int))=(a.items.length≠b.items.length):=propext (by omega)
 have eL:((a.kids.length:Int)≠(b.kids.length:Int))=(a.kids.length≠b.kids.length):=propext (by omega)
 by_cases hcase:a.kind=b.kind∧a.name=b.name∧a.items.length=b.items.length∧a.kids.length=b.kids.length
 · obtain ⟨h1,h2,h3,h4⟩:=hcase
   have p1:(a.kind≠b.kind)=False:=eq_false (fun h=>h h1)
   have p2:(a.name≠b.name)=False:=eq_false (fun h=>h h2)
   have p3:(a.items.length≠b.items.length)=False:=eq_false (fun h=>h h3)
   have p4:(a.kids.length≠b.kids.length)=False:=eq_false (fun h=>h h4)
   simp only [BA,go_sem,AD,AA,AC,AB,KB_n,KB_x,Nat.reduceBEq,Nat.reduceAdd,Nat.reduceLT,Nat.reduceLeDiff,Nat.reduceEqDiff,reduceIte,Int.reduceEq,reduceCtorEq,nc4,e0,e1,hq,a0,a1,a2,a3,b0,b1,b2,b3,List.length_map,eK,eI,eL,p1,p2,p3,p4]
   refine BP (fun x e q'=>∃ i:Nat,i+x=a.items.length∧a.items.take i=b.items.take i∧q'=q∧e.get 2=.p s.nb 0∧e.get 3=.p (s.nb+1) 0∧e.get 5=.i .i64 (i:Nat)) ?_ a.items.length _ _ ?_
   · rintro x e q' ⟨i,hix,heq,rfl,g2,g3,g5⟩
     by_cases h:i < a.items.length
     · have f1:((i:Int) < (a.items.length:Int))=True:=eq_true (by omega)
       obtain ⟨y,hy⟩:∃ y,a.items[i]? = some y:=⟨_,List.getElem?_eq_getElem h⟩
       obtain ⟨z,hz⟩:∃ z,b.items[i]? = some z:=⟨_,List.getElem?_eq_getElem (by omega)⟩
       have hy2:=It hy
       have hz2:=It hz
       have hw1:=AR (show i+1 < 2^63 by omega)
       have sy:=ild1 y
       have sz:=ild1 z
       obtain ⟨r,hr,hyz⟩:=Ub y.parts z.parts (ha.items.1 y (List.mem_of_getElem? hy)).len (hb.items.1 z (List.mem_of_getElem? hz)).len q' H1.wf
       have hov:∀ v:AV,over [.nsl,.i .i64 0] 0 [v]=some [v,.i .i64 0]:=fun _=>rfl
       have l11:∀ v:AV,([v].length=1)=True:=fun _=>eq_true rfl
       have cws:∀ l:List AV,(AV.ws false 3 l).cells=[.ws false 3 l]:=fun _=>rfl
       simp only [ptx] at hr
       have hpp:∀ (l:List AV) u,pubL u [.ws false 3 l,.i .i64 0]=some ([.ws false 3 l,.i .i64 0],u):=fun _ _=>rfl
       by_cases hs:y.split=z.split
       · have e2:∀ b:Bool,(b==b)=true:=fun b=>by simp
         rw [← hs] at sz
         cases r with
         | true =>
           have hyz2:y=z:=by
            have:=hyz.1 rfl
            cases y; cases z; simp only at this hs; subst this; subst hs; rfl
           cases hsp:y.split<;>simp only [hsp] at sy sz <;>
            (simp only [go_sem,AD,AA,AC,AB,KB_n,KB_x,Nat.reduceBEq,Nat.reduceAdd,Nat.reduceLT,Nat.reduceLeDiff,Nat.reduceEqDiff,reduceIte,Int.reduceEq,reduceCtorEq,g2,g3,g5,a2,b2,List.length_map,f1,AG,hy2,hz2,ild0,sy,sz,hov,l11,cws,hpp,hr,hw1]
             refine ⟨x - 1,by omega,i+1,by omega,?_,rfl⟩
             subst hyz2
             exact Fl hy hz heq)
         | false =>
           have hne:y≠z:=fun hh=>by have:=hyz.2 (by rw [hh]); cases this
           cases hsp:y.split<;>simp only [hsp] at sy sz <;>
            (simp only [go_sem,AD,AA,AC,AB,KB_n,KB_x,Nat.reduceBEq,Nat.reduceAdd,Nat.reduceLT,Nat.reduceLeDiff,Nat.reduceEqDiff,reduceIte,Int.reduceEq,reduceCtorEq,g2,g3,g5,a2,b2,List.length_map,f1,AG,hy2,hz2,ild0,sy,sz,hov,l11,cws,hpp,hr]
             exact finF (fun hh=>absurd (congrArg IN.items hh) (F7 hy hz hne)))
       · have hne:y≠z:=fun hh=>hs (by rw [hh])
         cases hsp:y.split<;>cases hsz:z.split<;>simp only [hsp] at sy<;>simp only [hsz] at sz <;>
          first
          | exact absurd (hsp.trans hsz.symm) hs
          | (simp only [go_sem,AD,AA,AC,AB,KB_n,KB_x,Nat.reduceBEq,Nat.reduceAdd,Nat.reduceLT,Nat.reduceLeDiff,Nat.reduceEqDiff,reduceIte,Int.reduceEq,reduceCtorEq,g2,g3,g5,a2,b2,List.length_map,f1,AG,hy2,hz2,ild0,sy,sz,hov,l11,cws,hpp]
             exact finF (fun hh=>absurd (congrArg IN.items hh) (F7 hy hz hne)))
     · have f1:((i:Int) < (a.items.length:Int))=False:=eq_false (by omega)
       have hI:=G0 h3 (by omega) heq
       simp only [go_sem,AD,AA,AC,AB,KB_n,KB_x,Nat.reduceBEq,Nat.reduceAdd,Nat.reduceLT,Nat.reduceLeDiff,Nat.reduceEqDiff,reduceIte,Int.reduceEq,reduceCtorEq,g2,g3,g5,a2,List.length_map,f1]
       refine BP (fun x e q=>∃ i:Nat,i+x=a.kids.length∧a.kids.take i=b.kids.take i∧q=q'∧e.get 2=.p s.nb 0∧e.get 3=.p (s.nb+1) 0∧e.get 6=.i .i64 (i:Nat)) ?_ a.kids.length _ _ ?_
       · clear g2 g3 g5 heq hix h f1 e i
         rintro x e q'' ⟨i,hix,heq,rfl,g2,g3,g6⟩
         by_cases h:i < a.kids.length
         · have f1:((i:Int) < (a.kids.length:Int))=True:=eq_true (by omega)
           obtain ⟨y,hy⟩:∃ y,a.kids[i]? = some y:=⟨_,List.getElem?_eq_getElem h⟩
           obtain ⟨z,hz⟩:∃ z,b.kids[i]? = some z:=⟨_,List.getElem?_eq_getElem (by omega)⟩
           have hy2:=Iu hy
           have hz2:=Iu hz
           have hym:=List.mem_of_getElem? hy
           have hzm:=List.mem_of_getElem? hz
           have hw1:=AR (show i+1 < 2^63 by omega)
           obtain ⟨r,hr,hyz⟩:=ih y hym (ha.kids.1 y hym) z (hb.kids.1 z hzm) q'' H1.wf
           have npy:=DS y
           have npz:=DS z
           cases r with
           | true =>
             have hyz:=hyz.1 rfl
             simp only [go_sem,AD,AA,AC,AB,KB_n,KB_x,Nat.reduceBEq,Nat.reduceAdd,Nat.reduceLT,Nat.reduceLeDiff,Nat.reduceEqDiff,reduceIte,Int.reduceEq,reduceCtorEq,g2,g3,g6,a3,b3,List.length_map,f1,AG,hy2,hz2,nld,npy,npz,hr,hw1]
             refine ⟨rfl,rfl,x - 1,by omega,i+1,by omega,?_,rfl⟩
             subst hyz
             exact Fl hy hz heq
           | false =>
             have hne:y≠z:=fun hh=>by have:=hyz.2 hh; cases this
             simp only [go_sem,AD,AA,AC,AB,KB_n,KB_x,Nat.reduceBEq,Nat.reduceAdd,Nat.reduceLT,Nat.reduceLeDiff,Nat.reduceEqDiff,reduceIte,Int.reduceEq,reduceCtorEq,g2,g3,g6,a3,b3,List.length_map,f1,AG,hy2,hz2,nld,npy,npz,hr]
             exact ⟨rfl,rfl,finF (fun hh=>absurd (congrArg IN.kids hh) (F7 hy hz hne))⟩
         · have f1:((i:Int) < (a.kids.length:Int))=False:=eq_false (by omega)
           simp only [go_sem,AD,AA,AC,AB,KB_n,KB_x,Nat.reduceBEq,Nat.reduceAdd,Nat.reduceLT,Nat.reduceLeDiff,Nat.reduceEqDiff,reduceIte,Int.reduceEq,reduceCtorEq,g2,g3,g6,a3,List.length_map,f1]
           exact fin true ⟨fun _=>hall.2 ⟨h1,h2,hI,G0 h4 (by omega) heq⟩,fun _=>rfl⟩
       · simp only [go_sem,AD,AA,AC,AB,KB_n,KB_x,Nat.reduceBEq,Nat.reduceAdd,Nat.reduceLT,Nat.reduceLeDiff,Nat.reduceEqDiff,reduceIte,Int.reduceEq,reduceCtorEq,g2,g3]
         exact ⟨0,by omega,by simp,rfl⟩
   · simp only [go_sem,AD,AA,AC,AB,KB_n,KB_x,Nat.reduceBEq,Nat.reduceAdd,Nat.reduceLT,Nat.reduceLeDiff,Nat.reduceEqDiff,reduceIte,Int.reduceEq,reduceCtorEq]
     exact ⟨0,by omega,by simp,rfl⟩
 · have hne:a≠b:=fun hh=>hcase (by subst hh; exact ⟨rfl,rfl,rfl,rfl⟩)
   rcases Classical.propComplete (a.kind≠b.kind) with p1 | p1<;>rcases Classical.propComplete (a.name≠b.name) with p2 | p2<;>rcases Classical.propComplete (a.items.length≠b.items.length) with p3 | p3<;>rcases Classical.propComplete (a.kids.length≠b.kids.length) with p4 | p4 <;>
    first
    | (exfalso; simp at p1 p2 p3 p4; exact hcase ⟨p1,p2,p3,p4⟩)
    | (simp only [BA,go_sem,AD,AA,AC,AB,KB_n,KB_x,Nat.reduceBEq,Nat.reduceAdd,Nat.reduceLT,Nat.reduceLeDiff,Nat.reduceEqDiff,reduceIte,Int.reduceEq,reduceCtorEq,nc4,e0,e1,hq,a0,a1,a2,a3,b0,b1,b2,b3,List.length_map,eK,eI,eL,p1,p2,p3,p4]
       exact finF hne)

theorem Ud (M N:List (List Nat)) (hM:M.length < 2^37) (hN:N.length < 2^37) (s:St) (hw:Wf s):(lim prog).call Cf [tx M,tx N] s=some (.b (decide (M=N.take M.length)),s):=by
 refine fn_W Eh rfl rfl ?_
 have hz0:wkZ AZ.cin [tx M,tx N]=[tx M,tx N]:=by simp [AZ,wkZ,wk,IX]
 rw [hz0]
 have H1:=Hp.begin hw
 generalize hq:s.enter=q at H1
 by_cases hlen:N.length < M.length
 · have e0:((N.length:Int) < (M.length:Int))=True:=eq_true (by omega)
   have hne:¬ M=N.take M.length:=fun h=>by have:=congrArg List.length h; rw [List.length_take] at this; omega
   simp only [AZ,go_sem,AD,AA,AC,AB,KB_n,KB_x,Nat.reduceBEq,Nat.reduceAdd,Nat.reduceLT,Nat.reduceLeDiff,Nat.reduceEqDiff,reduceIte,Int.reduceEq,reduceCtorEq,List.length_map,e0]
   rw [decide_eq_false hne]
   exact AL H1.over rfl rfl
 have e0:((N.length:Int) < (M.length:Int))=False:=eq_false (by omega)
 simp only [AZ,go_sem,AD,AA,AC,AB,KB_n,KB_x,Nat.reduceBEq,Nat.reduceAdd,Nat.reduceLT,Nat.reduceLeDiff,Nat.reduceEqDiff,reduceIte,Int.reduceEq,reduceCtorEq,List.length_map,e0]
 refine BP (fun x e q'=>∃ i:Nat,i+x=M.length∧M.take i=N.take i∧q'=q∧e.get 0=tx M∧e.get 1=tx N∧e.get 5=.i .i64 (i:Nat)) ?_ M.length _ _ ?_
 · rintro x e q' ⟨i,hix,heq,rfl,g0,g1,g5⟩
   by_cases h:i < M.length
   · have h1:((i:Int) < (M.length:Int))=True:=eq_true (by omega)
     obtain ⟨y,hy⟩:∃ y,M[i]? = some y:=⟨_,List.getElem?_eq_getElem h⟩
     obtain ⟨z,hz⟩:∃ z,N[i]? = some z:=⟨_,List.getElem?_eq_getElem (by omega)⟩
     have hy2:=OK hy
     have hz2:=OK hz
     have hw1:=AR (show i+1 < 2^63 by omega)
     by_cases hyz:y=z
     · have e2:(y≠z)=False:=eq_false (fun h=>h hyz)
       simp only [go_sem,AD,AA,AC,AB,KB_n,KB_x,Nat.reduceBEq,Nat.reduceAdd,Nat.reduceLT,Nat.reduceLeDiff,Nat.reduceEqDiff,reduceIte,Int.reduceEq,reduceCtorEq,g0,g1,g5,List.length_map,h1,AG,hy2,hz2,Dl,IA,e2,hw1]
       refine ⟨x - 1,by omega,i+1,by omega,?_,rfl⟩
       rw [List.take_add_one,List.take_add_one,hy,hz,heq,hyz]
     · have e2:(y≠z)=True:=eq_true hyz
       have hne:¬ M=N.take M.length:=fun hh=>by
        have:M[i]? = (N.take M.length)[i]? := by rw [← hh]
        rw [hy,List.getElem?_take,if_pos h,hz] at this
        exact hyz (Option.some.inj this)
       simp only [go_sem,AD,AA,AC,AB,KB_n,KB_x,Nat.reduceBEq,Nat.reduceAdd,Nat.reduceLT,Nat.reduceLeDiff,Nat.reduceEqDiff,reduceIte,Int.reduceEq,reduceCtorEq,g0,g1,g5,List.length_map,h1,AG,hy2,hz2,Dl,IA,e2]
       rw [decide_eq_false hne]
       exact AL H1.over rfl rfl
   · have h1:((i:Int) < (M.length:Int))=False:=eq_false (by omega)
     have hi:i=M.length:=by omega
     subst hi
     have hyes:M=N.take M.length:=by rw [← heq,List.take_length]
     simp only [go_sem,AD,AA,AC,AB,KB_n,KB_x,Nat.reduceBEq,Nat.reduceAdd,Nat.reduceLT,Nat.reduceLeDiff,Nat.reduceEqDiff,reduceIte,Int.reduceEq,reduceCtorEq,g0,g1,g5,List.length_map,h1]
     rw [decide_eq_true hyes]
     exact AL H1.over rfl rfl
 · simp only [go_sem,AD,AA,AC,AB,KB_n,KB_x,Nat.reduceBEq,Nat.reduceAdd,Nat.reduceLT,Nat.reduceLeDiff,Nat.reduceEqDiff,reduceIte,Int.reduceEq,reduceCtorEq]
   exact ⟨0,by omega,by simp,rfl⟩
theorem WH (M N:List (List Nat)) (hM:M.length < 2^37) (hN:N.length < 2^37) (s:St) (hw:Wf s):(lim prog).call B3 [tx M,tx N] s=some (.b (decide (M=N)),s):=by
 refine fn_W Es rfl rfl ?_
 have hz0:wkZ Ad.cin [tx M,tx N]=[tx M,tx N]:=by simp [Ad,wkZ,wk,IX]
 rw [hz0]
 have H1:=Hp.begin hw
 generalize hq:s.enter=q at H1
 by_cases hlen:M.length=N.length
 · have e0:((M.length:Int)=(N.length:Int))=True:=eq_true (by omega)
   have hu:=Ud M N hM hN q H1.wf
   have hd:decide (M=N.take M.length)=decide (M=N):=by rw [hlen,List.take_length]
   rw [hd] at hu
   simp only [Ad,go_sem,AD,AA,AC,AB,KB_n,KB_x,Nat.reduceBEq,Nat.reduceAdd,Nat.reduceLT,Nat.reduceLeDiff,Nat.reduceEqDiff,reduceIte,Int.reduceEq,reduceCtorEq,List.length_map,e0,DS,hu]
   exact AL H1.over rfl rfl
 · have e0:((M.length:Int)=(N.length:Int))=False:=eq_false (by omega)
   have hne:¬ M=N:=fun h=>hlen (by rw [h])
   simp only [Ad,go_sem,AD,AA,AC,AB,KB_n,KB_x,Nat.reduceBEq,Nat.reduceAdd,Nat.reduceLT,Nat.reduceLeDiff,Nat.reduceEqDiff,reduceIte,Int.reduceEq,reduceCtorEq,List.length_map,e0]
   rw [decide_eq_false hne]
   exact AL H1.over rfl rfl
theorem Ue (M N:List (List Nat)) (hM:M.length < 2^37) (hN:N.length < 2^37) (Z:List (List Nat)) (id m0:Nat) (fz:Bool) (s:St) (hw:Wf s) (hid:id < s.nb) (hbx:s.box? id=some (.row 9 ((M++Z).map .s) fz 0)):(lim prog).call Cf [.bl id 1 0 M.length (m0,false),tx N] s=some (.b (decide (M=N.take M.length)),s):=by
 refine fn_W Eh rfl rfl ?_
 have hz0:wkZ AZ.cin [.bl id 1 0 M.length (m0,false),tx N]=[.bl id 1 0 M.length (m0,false),tx N]:=by simp [AZ,wkZ,wk,IX]
 rw [hz0]
 have H1:=Hp.begin hw
 generalize hq:s.enter=q at H1
 by_cases hlen:N.length < M.length
 · have e0:((N.length:Int) < (M.length:Int))=True:=eq_true (by omega)
   have hne:¬ M=N.take M.length:=fun h=>by have:=congrArg List.length h; rw [List.length_take] at this; omega
   simp only [AZ,go_sem,AD,AA,AC,AB,KB_n,KB_x,Nat.reduceBEq,Nat.reduceAdd,Nat.reduceLT,Nat.reduceLeDiff,Nat.reduceEqDiff,reduceIte,Int.reduceEq,reduceCtorEq,List.length_map,e0]
   rw [decide_eq_false hne]
   exact AL H1.over rfl rfl
 have e0:((N.length:Int) < (M.length:Int))=False:=eq_false (by omega)
 simp only [AZ,go_sem,AD,AA,AC,AB,KB_n,KB_x,Nat.reduceBEq,Nat.reduceAdd,Nat.reduceLT,Nat.reduceLeDiff,Nat.reduceEqDiff,reduceIte,Int.reduceEq,reduceCtorEq,List.length_map,e0]
 refine BP (fun x e q'=>∃ i:Nat,i+x=M.length∧M.take i=N.take i∧q'=q∧e.get 0=.bl id 1 0 M.length (m0,false)∧e.get 1=tx N∧e.get 5=.i .i64 (i:Nat)) ?_ M.length _ _ ?_
 · rintro x e q' ⟨i,hix,heq,rfl,g0,g1,g5⟩
   have hbq:q'.box? id=some (.row 9 ((M++Z).map .s) fz 0):=by rw [ovB H1.over H1.wf hw hid]; exact hbx
   by_cases h:i < M.length
   · have h1:((i:Int) < (M.length:Int))=True:=eq_true (by omega)
     obtain ⟨y,hy⟩:∃ y,M[i]? = some y:=⟨_,List.getElem?_eq_getElem h⟩
     obtain ⟨z,hz⟩:∃ z,N[i]? = some z:=⟨_,List.getElem?_eq_getElem (by omega)⟩
     have hy2:=OK hy
     have hz2:=OK hz
     have hw1:=AR (show i+1 < 2^63 by omega)
     have hil:(i < M.length)=True:=eq_true h
     have lr3:=Yp hy hbq
     by_cases hyz:y=z
     · have e2:(y≠z)=False:=eq_false (fun h=>h hyz)
       simp only [go_sem,AD,AA,AC,AB,KB_n,KB_x,Nat.reduceBEq,Nat.reduceAdd,Nat.reduceLT,Nat.reduceLeDiff,Nat.reduceEqDiff,reduceIte,Int.reduceEq,reduceCtorEq,g0,g1,g5,List.length_map,h1,AG,hil,lr3,hz2,Dl,IA,e2,hw1]
       refine ⟨x - 1,by omega,i+1,by omega,?_,rfl⟩
       rw [List.take_add_one,List.take_add_one,hy,hz,heq,hyz]
     · have e2:(y≠z)=True:=eq_true hyz
       have hne:¬ M=N.take M.length:=fun hh=>by
        have:M[i]? = (N.take M.length)[i]? := by rw [← hh]
        rw [hy,List.getElem?_take,if_pos h,hz] at this
        exact hyz (Option.some.inj this)
       simp only [go_sem,AD,AA,AC,AB,KB_n,KB_x,Nat.reduceBEq,Nat.reduceAdd,Nat.reduceLT,Nat.reduceLeDiff,Nat.reduceEqDiff,reduceIte,Int.reduceEq,reduceCtorEq,g0,g1,g5,List.length_map,h1,AG,hil,lr3,hz2,Dl,IA,e2]
       rw [decide_eq_false hne]
       exact AL H1.over rfl rfl
   · have h1:((i:Int) < (M.length:Int))=False:=eq_false (by omega)
     have hi:i=M.length:=by omega
     subst hi
     have hyes:M=N.take M.length:=by rw [← heq,List.take_length]
     simp only [go_sem,AD,AA,AC,AB,KB_n,KB_x,Nat.reduceBEq,Nat.reduceAdd,Nat.reduceLT,Nat.reduceLeDiff,Nat.reduceEqDiff,reduceIte,Int.reduceEq,reduceCtorEq,g0,g1,g5,List.length_map,h1]
     rw [decide_eq_true hyes]
     exact AL H1.over rfl rfl
 · simp only [go_sem,AD,AA,AC,AB,KB_n,KB_x,Nat.reduceBEq,Nat.reduceAdd,Nat.reduceLT,Nat.reduceLeDiff,Nat.reduceEqDiff,reduceIte,Int.reduceEq,reduceCtorEq]
   exact ⟨0,by omega,by simp,rfl⟩
theorem Rr (M N:List (List Nat)) (hM:M.length < 2^37) (hN:N.length < 2^37) (Z:List (List Nat)) (id m0:Nat) (fz:Bool) (s:St) (hw:Wf s) (hid:id < s.nb) (hbx:s.box? id=some (.row 9 ((M++Z).map .s) fz 0)):(lim prog).call B3 [.bl id 1 0 M.length (m0,false),tx N] s=some (.b (decide (M=N)),s):=by
 refine fn_W Es rfl rfl ?_
 have hz0:wkZ Ad.cin [.bl id 1 0 M.length (m0,false),tx N]=[.bl id 1 0 M.length (m0,false),tx N]:=by simp [Ad,wkZ,wk,IX]
 rw [hz0]
 have H1:=Hp.begin hw
 generalize hq:s.enter=q at H1
 have hbq:q.box? id=some (.row 9 ((M++Z).map .s) fz 0):=by rw [ovB H1.over H1.wf hw hid]; exact hbx
 by_cases hlen:M.length=N.length
 · have e0:((M.length:Int)=(N.length:Int))=True:=eq_true (by omega)
   have hu:=Ue M N hM hN Z id m0 fz q H1.wf (by have:=H1.over.nb; omega) hbq
   have hd:decide (M=N.take M.length)=decide (M=N):=by rw [hlen,List.take_length]
   rw [hd] at hu
   simp only [Ad,go_sem,AD,AA,AC,AB,KB_n,KB_x,Nat.reduceBEq,Nat.reduceAdd,Nat.reduceLT,Nat.reduceLeDiff,Nat.reduceEqDiff,reduceIte,Int.reduceEq,reduceCtorEq,List.length_map,e0,DS,hu]
   exact AL H1.over rfl rfl
 · have e0:((M.length:Int)=(N.length:Int))=False:=eq_false (by omega)
   have hne:¬ M=N:=fun h=>hlen (by rw [h])
   simp only [Ad,go_sem,AD,AA,AC,AB,KB_n,KB_x,Nat.reduceBEq,Nat.reduceAdd,Nat.reduceLT,Nat.reduceLeDiff,Nat.reduceEqDiff,reduceIte,Int.reduceEq,reduceCtorEq,List.length_map,e0]
   rw [decide_eq_false hne]
   exact AL H1.over rfl rfl

theorem WU (N:List (List Nat)) (i:Nat) (x:List Nat):(N.map AV.s).take i++([AV.s x]++(N.map AV.s).drop (i+1))=(N.take i++(x::N.drop (i+1))).map .s:=by simp
theorem Um {s0 s q:St} {id m cnt:Nat} {b:Bool} {x:Bool} {N:List (List Nat)} {B:List (Nat×Box)} {e:Tr} {Q:Ex→Tr→St→Prop} (H:Hp s0 q s.en [] ((id,.row 9 (N.map .s) false 0)::B)) (hN:cnt≤N.length) (hc:cnt < 2^62) (g0:e.get 0=.bl id 1 0 cnt (m,b)) (g5:e.get 5=.b x)
    (k:∀ (e':Tr) (q':St) (X:Box),Hp s0 q' s.en [] ((id,X)::B)→e'.get 4=.b x→Q .r e' q'):W (lim prog) (subC AI.body [1,1]) e q Q:=by
 have hth:∀ (u:St) a b c d e,GE u (.bl a b c d e)=some (.bl a b c d e,u):=fun _ _ _ _ _ _=>rfl
 simp only [AI,subC,go_sem,AD,AA,AC,AB,KB_n,KB_x,Nat.reduceBEq,Nat.reduceAdd,Nat.reduceLT,Nat.reduceLeDiff,Nat.reduceEqDiff,reduceIte,Int.reduceEq,reduceCtorEq]
 refine BP (fun y e q=>∃ (i:Nat) (N:List (List Nat)),i+y=cnt∧Hp s0 q s.en [] ((id,.row 9 (N.map .s) false 0)::B)∧cnt≤N.length∧e.get 0=.bl id 1 0 cnt (m,b)∧e.get 5=.b x∧e.get 6=.i .i64 (i:Nat)) ?_ cnt _ _ ?_
 · clear g0 g5 H hN e q N
   rintro y e q ⟨i,N,hiy,H,hN,g0,g5,g6⟩
   by_cases h:i < cnt
   · have f1:((i:Int) < (cnt:Int))=True:=eq_true (by omega)
     have hw1:=AR (show i+1 < 2^63 by omega)
     obtain ⟨q2,d2,H2,n2⟩:=H.strw 0 (off:=i) (m:=1) (v:=.s [115,112,111,105,108,116]) rfl (by simp; omega) ⟨rfl,rfl⟩
     have hcl:(AV.s [115,112,111,105,108,116]).cells=[.s [115,112,111,105,108,116]]:=rfl
     rw [hcl] at H2
     simp only [List.length_cons,List.length_nil,List.set_cons_zero,Nat.zero_add] at H2
     rw [WU] at H2
     simp only [go_sem,AD,AA,AC,AB,KB_n,KB_x,Nat.reduceBEq,Nat.reduceAdd,Nat.reduceLT,Nat.reduceLeDiff,Nat.reduceEqDiff,reduceIte,Int.reduceEq,reduceCtorEq,g0,g5,g6,f1,hth,AG,h,Nat.mul_one,Nat.zero_add,d2,hw1]
     exact ⟨y - 1,by omega,i+1,_,by omega,H2,by simp; omega,rfl⟩
   · have f1:((i:Int) < (cnt:Int))=False:=eq_false (by omega)
     simp only [go_sem,AD,AA,AC,AB,KB_n,KB_x,Nat.reduceBEq,Nat.reduceAdd,Nat.reduceLT,Nat.reduceLeDiff,Nat.reduceEqDiff,reduceIte,Int.reduceEq,reduceCtorEq,g0,g5,g6,f1]
     exact k _ q _ H (by simp only [go_sem,AD,AA,AC,AB,KB_n,KB_x,Nat.reduceBEq,Nat.reduceAdd,Nat.reduceLT,Nat.reduceLeDiff,Nat.reduceEqDiff,reduceIte,Int.reduceEq,reduceCtorEq])
 · simp only [go_sem,AD,AA,AC,AB,KB_n,KB_x,Nat.reduceBEq,Nat.reduceAdd,Nat.reduceLT,Nat.reduceLeDiff,Nat.reduceEqDiff,reduceIte,Int.reduceEq,reduceCtorEq,g0,g5]
   exact ⟨0,N,by omega,H,hN,rfl⟩
section
variable {s0 s:St} {n:En} {B:List (Nat×Box)}
theorem Qf {q:St} {x:Bool} {R:List RA} {B2:List (Nat×Box)} (H:Hp s0 s n R B2) (K:Hp s0 q s.en [] B) (hB:∀ p∈B,p.1 < s.nb):∃ vs s2,(some ([AV.b x],q):Option (List AV×St))=some (vs,s2)∧BE (wkZ [.id] vs)=.b x∧Hp s0 (leave s s2 (BE vs)) n [] B :=
 ⟨_,_,rfl,rfl,H.leave (n1:=⟨s.nb,s.nb,s.nt⟩) K (.b x) (fun h=>hB _ (List.mem_of_getElem? h)) (.inr fun h=>by simp at h)⟩
theorem lsameB {id m:Nat} {L M Z:List (List Nat)} (H:Hp s0 s n [] ((id,.row 9 ((L++Z).map .s) false 0)::B)) (hL:L.length < 2^36) (hM:M.length < 2^36) :
    ∃ s',(lim prog).call Ac [.bl id 1 0 L.length (m,false),tx M] s=some (.b (decide (L=M)),s')∧Hp s0 s' n [] B:=by
 obtain ⟨r,s',hc,rfl,h1⟩:=fn_G (f:=Ac) (args:=[.bl id 1 0 L.length (m,false),tx M]) (s:=s) (Post:=fun r s'=>r=.b (decide (L=M))∧Hp s0 s' n [] B) Dk rfl rfl (by
  have hz0:wkZ AI.cin [.bl id 1 0 L.length (m,false),tx M]=[.bl id 1 0 L.length (m,false),tx M]:=by simp [AI,wkZ,wk,IX]
  rw [hz0]
  have HE:=H.enter
  have hbx:=HE.box (i:=0) rfl
  have hth:∀ (u:St) a b c d e,GE u (.bl a b c d e)=some (.bl a b c d e,u):=fun _ _ _ _ _ _=>rfl
  have htw:∀ (u:St) l,GE u (.ws false 1 l)=some (.ws false 1 l,u):=fun _ _=>rfl
  have hpb:∀ (u:St) a b c d e,Am.pub u (.bl a b c d e)=some (.bl a b c d e,u):=fun _ _ _ _ _ _=>rfl
  have hS:=Rr L M (by omega) (by omega) Z id m false s.enter HE.wf hbx.2.2 hbx.1
  simp only [tx] at hS
  have hB:∀ p∈B,p.1 < s.nb:=fun p hp=>by
   obtain ⟨i,hi,rfl⟩:=List.mem_iff_getElem.1 hp
   exact (H.dropB.box (List.getElem?_eq_getElem hi)).2.2
  show W (lim prog) (.seq (subC AI.body [0]) (.seq (subC AI.body [1,0]) (subC AI.body [1,1]))) _ _ _
  refine FG (fun e q=>q=s.enter∧e.get 0=.bl id 1 0 L.length (m,false)∧e.get 1=.ws false 1 (M.map .s)) ?_ ?_
  · simp only [AI,subC,go_sem,AD,AA,AC,AB,KB_n,KB_x,Nat.reduceBEq,Nat.reduceAdd,Nat.reduceLT,Nat.reduceLeDiff,Nat.reduceEqDiff,reduceIte,Int.reduceEq,reduceCtorEq,tx]
  rintro e q ⟨rfl,g0,g1⟩
  refine FG (fun e q=>q=s.enter∧e.get 0=.bl id 1 0 L.length (m,false)∧e.get 5=.b (decide (L=M))) ?_ ?_
  · simp only [AI,subC,go_sem,AD,AA,AC,AB,KB_n,KB_x,Nat.reduceBEq,Nat.reduceAdd,Nat.reduceLT,Nat.reduceLeDiff,Nat.reduceEqDiff,reduceIte,Int.reduceEq,reduceCtorEq,g0,g1,hth,htw,hpb,hS]
  clear g0 g1 e
  rintro e q ⟨rfl,g0,g5⟩
  refine Um HE (by simp) (by omega) g0 g5 fun e' q' X K h4=>?_
  simp only [AI,go_sem,AD,AA,AC,AB,KB_n,KB_x,Nat.reduceBEq,Nat.reduceAdd,Nat.reduceLT,Nat.reduceLeDiff,Nat.reduceEqDiff,reduceIte,Int.reduceEq,reduceCtorEq,h4]
  exact Qf H K.dropB hB)
 exact ⟨s',hc,h1⟩
theorem lsameR {a:AV} {L M:List (List Nat)} (H:Hp s0 s n [⟨1,9,a,L.map .s,true⟩] B) (ha:A7 a≠none) (hL:L.length < 2^36) (hM:M.length < 2^36) :
    ∃ s',(lim prog).call Ac [a,tx M] s=some (.b (decide (L=M)),s')∧Hp s0 s' n [] B:=by
 obtain ⟨xs,kv,vv,hav⟩:∃ xs k v,a=.sl 1 xs (.tok k v):=by
  rcases H.rows (i:=0) rfl with h | ⟨k,v,t,h,_⟩
  · exact absurd (FB h) ha
  · exact ⟨_,k,v,h⟩
 obtain ⟨r,s',hc,rfl,h1⟩:=fn_G (f:=Ac) (args:=[a,tx M]) (s:=s) (Post:=fun r s'=>r=.b (decide (L=M))∧Hp s0 s' n [] B) Dk rfl rfl (by
  have hz0:wkZ AI.cin [a,tx M]=[a,tx M]:=by subst hav; simp [AI,wkZ,wk,IX]
  rw [hz0]
  have HE:=H.enter
  obtain ⟨q1,d1,H1,n1⟩:=HE.thaw 0 rfl ha [] (by simp) (by simp)
  rw [List.length_map,Nat.mul_one] at d1
  have hnil:pick [(⟨1,9,a,L.map .s,true⟩:RA)] []=[]:=rfl
  rw [hnil,P1] at H1
  have H1:Hp s0 q1 s.en [] ((s.nb,.row 9 ((L++[]).map .s) false 0)::B):=by rw [List.append_nil]; exact H1
  have hbx:=H1.box (i:=0) rfl
  have htw:∀ (u:St) l,GE u (.ws false 1 l)=some (.ws false 1 l,u):=fun _ _=>rfl
  have hpb:∀ (u:St) a b c d e,Am.pub u (.bl a b c d e)=some (.bl a b c d e,u):=fun _ _ _ _ _ _=>rfl
  have hS:=Rr L M (by omega) (by omega) [] s.nb L.length false q1 H1.wf hbx.2.2 hbx.1
  simp only [tx] at hS
  have hB:∀ p∈B,p.1 < s.nb:=fun p hp=>by
   obtain ⟨i,hi,rfl⟩:=List.mem_iff_getElem.1 hp
   exact (H.box (List.getElem?_eq_getElem hi)).2.2
  have e0:s.enter.nb=s.nb:=rfl
  rw [e0] at d1
  show W (lim prog) (.seq (subC AI.body [0]) (.seq (subC AI.body [1,0]) (subC AI.body [1,1]))) _ _ _
  refine FG (fun e q=>q=s.enter∧e.get 0=a∧e.get 1=.ws false 1 (M.map .s)) ?_ ?_
  · simp only [AI,subC,go_sem,AD,AA,AC,AB,KB_n,KB_x,Nat.reduceBEq,Nat.reduceAdd,Nat.reduceLT,Nat.reduceLeDiff,Nat.reduceEqDiff,reduceIte,Int.reduceEq,reduceCtorEq,tx]
  rintro e q ⟨rfl,g0,g1⟩
  refine FG (fun e q=>q=q1∧e.get 0=.bl s.nb 1 0 L.length (L.length,false)∧e.get 5=.b (decide (L=M))) ?_ ?_
  · simp only [AI,subC,go_sem,AD,AA,AC,AB,KB_n,KB_x,Nat.reduceBEq,Nat.reduceAdd,Nat.reduceLT,Nat.reduceLeDiff,Nat.reduceEqDiff,reduceIte,Int.reduceEq,reduceCtorEq,g0,g1,d1,htw,hpb,hS]
  clear g0 g1 e
  rintro e q ⟨rfl,g0,g5⟩
  refine Um H1 (by simp) (by omega) g0 g5 fun e' q' X K h4=>?_
  simp only [AI,go_sem,AD,AA,AC,AB,KB_n,KB_x,Nat.reduceBEq,Nat.reduceAdd,Nat.reduceLT,Nat.reduceLeDiff,Nat.reduceEqDiff,reduceIte,Int.reduceEq,reduceCtorEq,h4]
  exact Qf H K.dropB hB)
 exact ⟨s',hc,h1⟩
theorem W5 {M:List (List Nat)} (H:Hp s0 s n [] B) (hM:M.length < 2^36) :
    ∃ s',(lim prog).call Ac [.nsl,tx M] s=some (.b (decide (([]:List (List Nat))=M)),s')∧Hp s0 s' n [] B:=by
 obtain ⟨r,s',hc,rfl,h1⟩:=fn_G (f:=Ac) (args:=[.nsl,tx M]) (s:=s) (Post:=fun r s'=>r=.b (decide (([]:List (List Nat))=M))∧Hp s0 s' n [] B) Dk rfl rfl (by
  have hz0:wkZ AI.cin [.nsl,tx M]=[.ws false 1 [],tx M]:=by simp [AI,wkZ,wk,IX,wkM]
  rw [hz0]
  have HE:=H.enter
  have htw:∀ (u:St) l,GE u (.ws false 1 l)=some (.ws false 1 l,u):=fun _ _=>rfl
  have hS:=WH [] M (by simp) (by omega) s.enter HE.wf
  simp only [tx,List.map_nil] at hS
  have hB:∀ p∈B,p.1 < s.nb:=fun p hp=>by
   obtain ⟨i,hi,rfl⟩:=List.mem_iff_getElem.1 hp
   exact (H.box (List.getElem?_eq_getElem hi)).2.2
  have h00:((0:Int) < 0)=False:=by simp
  simp only [AI,go_sem,AD,AA,AC,AB,KB_n,KB_x,Nat.reduceBEq,Nat.reduceAdd,Nat.reduceLT,Nat.reduceLeDiff,Nat.reduceEqDiff,reduceIte,Int.reduceEq,reduceCtorEq,tx,htw,hS]
  refine BP (fun y e q=>q=s.enter∧e.get 0=.ws false 1 []∧e.get 5=.b (decide (([]:List (List Nat))=M))∧e.get 6=.i .i64 0) ?_ 0 _ _ ?_
  · rintro y e q ⟨rfl,g0,g5,g6⟩
    simp only [go_sem,AD,AA,AC,AB,KB_n,KB_x,Nat.reduceBEq,Nat.reduceAdd,Nat.reduceLT,Nat.reduceLeDiff,Nat.reduceEqDiff,reduceIte,Int.reduceEq,reduceCtorEq,g0,g5,g6,List.length_nil,Int.natCast_zero,h00]
    exact Qf H HE hB
  · simp only [go_sem,AD,AA,AC,AB,KB_n,KB_x,Nat.reduceBEq,Nat.reduceAdd,Nat.reduceLT,Nat.reduceLeDiff,Nat.reduceEqDiff,reduceIte,Int.reduceEq,reduceCtorEq])
 exact ⟨s',hc,h1⟩
end
end Go.Proofs.YtmnbfgfgjmmhfaaGreatDoor
