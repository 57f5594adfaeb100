/-
  The node at a place: ftree.At, and the document's.
-/
import Derived.Test.YtgloinighjdhlaaLNode7
import Derived.Test.YtgloinighjdhlaaAmMemo
import Derived.Test.YtgloinighjdhlaaEtouchstonelaw21works
import Derived.Test.YtgloinighjdhlaaLink
import Derived.Test.YtgloinighjdhlaaProg
set_option linter.all false
set_option linter.unusedVariables false
set_option linter.unusedSimpArgs false
set_option linter.unusedSectionVars false
set_option maxRecDepth 100000
set_option maxHeartbeats 4000000
namespace Go.Proofs.Ytgloinighjdhlaa
open Go.Proofs.Ytgloinighjdhlaa.Am
attribute [local irreducible] W WO WE WQ WD Tr.get Tr.set
abbrev ctN:CT:=.agg [.id,.id,(.sl 1 .id),(.sl 4 (.agg [.id,.id,(.sl 1 .id),(.sl 4 (.agg [.id,.id,(.sl 1 .id),(.sl 4 .id)]))]))]
theorem Wa:noN.Ok:=.mk (by decide) ⟨by simp,by simp⟩ (by decide) (fun _ h=>by simp at h) (by decide) (by decide) (fun _ h=>by simp at h)
theorem M8 {n:ND} (ho:n.Ok):∀ (pl:List (List Nat)),(foundN (findP n pl)).Ok
 | []=>ho
 | y :: pl=>by
   unfold findP
   cases hk:kidN n y with
   | none=>exact Wa
   | some k =>
     simp only
     have hm:k∈n.kids:=by
      unfold kidN at hk
      split at hk
      · split at hk
        · exact List.mem_of_getElem? hk
        · cases hk
      · cases hk
     exact M8 (ho.kids.1 k hm) pl
theorem KR_N {s q:St} (ov:Over s q) (x:ND) (b:Bool):KR s [ctN,.id] (.tup [.agg x.cells,.b b]) (some ([.agg x.cells,.b b],q)):=by
 refine AQ ov ?_ ?_
 · have:=PF x
   rw [ND.av_eq] at this
   simp only [Bt,AV.refs,AV.refs.go,this]
   simp only [AV.refs] at this
   rw [this]; rfl
 · rfl
theorem RI (n:ND) (ho:n.Ok) (hwl:CH n=true) (pl:List (List Nat)) (hl:pl.length < 2^62) (s:St) (hw:Wf s) :
    (lim prog).call JR [.agg n.cells,tx pl] s=some (.tup [.agg (foundN (findP n pl)).cells,.b (findP n pl).isSome],s):=by
 refine fn_W Q7 rfl rfl ?_
 have hz0:wkZ E7.cin [.agg n.cells,tx pl]=[.agg n.cells,tx pl]:=by simp [E7,wkZ,wk,ND.cells]
 rw [hz0]
 have e0:s.enter.nb=s.nb:=rfl
 have H1:=((Hp.begin hw).new (.cells 47 n.cells)).new (.cells 47 [.i .u8 0,.s [],.nsl,.nsl])
 have e1:(s.enter.new (.cells 47 n.cells)).nb=s.nb+1:=rfl
 obtain ⟨q1,hq1⟩:∃ q1,(s.enter.new (.cells 47 n.cells)).new (.cells 47 [.i .u8 0,.s [],.nsl,.nsl])=q1:=⟨_,rfl⟩
 rw [hq1,e1,e0] at H1
 have lw:=H1.ldw (m:=4) 1 rfl rfl
 have hwf:=TS n ho q1 H1.wf
 rw [hwl] at hwf
 have hf:=YI n ho hwl pl hl q1 H1.wf
 obtain ⟨x,hx⟩:∃ x,foundN (findP n pl)=x:=⟨_,rfl⟩
 have hxo:=M8 ho pl
 rw [hx] at hf hxo
 obtain ⟨q2,d2,H2,n2⟩:=H1.adp (T:=47) (m:=4) (z:=[.i .u8 0,.s [],.nsl,.nsl]) (v:=.agg x.cells) rfl ⟨Af x,Lh x⟩
 have lx:=H2.ldw (m:=4) 0 rfl rfl
 have ho:=own_ok x hxo q2 H2.wf
 obtain ⟨q3,d3,H3,n3,_⟩:=H2.stw 1 (m:=4) (v:=.agg x.cells) rfl rfl ⟨Af x,Lh x⟩
 have lr:=H3.ldw (m:=4) 1 rfl rfl
 rw [hx]
 simp only [Cn] at lx lr
 simp only [tx] at hf
 simp only [E7,go_sem,AD,AA,AC,AB,KB_n,KB_x,Nat.reduceBEq,Nat.reduceAdd,Nat.reduceLT,Nat.reduceLeDiff,Nat.reduceEqDiff,reduceIte,Int.reduceEq,reduceCtorEq,Af,tx,hq1,e1,e0,lw,hwf,hf,d2,lx,ho,d3,lr,AR,LM]
 exact KR_N H3.over x _

def PA (P:List Nat→Bool) (L:List (List Nat)):Int:=match L.findIdx? P with
 | some i=>(i:Int)
 | none => -1
theorem TL (P:List Nat→Bool) (L:List (List Nat)):(0≤PA P L)=(L.any P=true):=by
 unfold PA
 cases h:L.findIdx? P with
 | none =>
   rw [List.findIdx?_eq_none_iff] at h
   simp only [eq_iff_iff]
   constructor
   · intro hh; omega
   · intro hh
     obtain ⟨x,hx,hp⟩:=List.any_eq_true.1 hh
     rw [h x hx] at hp; cases hp
 | some i =>
   rw [List.findIdx?_eq_some_iff_getElem] at h
   obtain ⟨hi,hp,_⟩:=h
   simp only [eq_iff_iff]
   constructor
   · intro _; exact List.any_eq_true.2 ⟨_,List.getElem_mem hi,hp⟩
   · intro _; omega
theorem M9 (L:List (List Nat)) (hL:L.length < 2^62) (g:Nat) (caps:List AV) (P:List Nat→Bool) (s:St) (hw:Wf s) (hP:∀ z∈L,FR (lim prog) (.fn g caps) [.s z] s.enter=some (.b (P z),s.enter)) :
    (lim prog).call Bm [tx L,.fn g caps] s=some (.i .i64 (PA P L),s):=by
 refine fn_W D4 rfl rfl ?_
 have hz0:wkZ Ak.cin [tx L,.fn g caps]=[tx L,.fn g caps]:=by simp [Ak,wkZ,wk,tx,Lb]
 rw [hz0]
 simp only [Ak,go_sem,AD,AA,AC,AB,KB_n,KB_x,Nat.reduceBEq,Nat.reduceAdd,Nat.reduceLT,Nat.reduceLeDiff,Nat.reduceEqDiff,reduceIte,Int.reduceEq,reduceCtorEq,tx,List.length_map]
 refine Bv (fun x e q=>∃ i:Nat,i+x=L.length∧q=s.enter∧(∀ j,j < i→∀ y,L[j]? = some y→P y=false)∧e.get 0=tx L∧e.get 1=.fn g caps∧e.get 7=.i .i64 (L.length:Nat)∧e.get 8=.i .i64 (i:Nat)) ?_ L.length _ _ ?_
 · rintro x e q ⟨i,hi,rfl,hb,g0,g1,g7,g8⟩
   by_cases h:i < L.length
   · have h1:((i:Int) < (L.length:Int))=True:=eq_true (by omega)
     obtain ⟨z,hz⟩:∃ z,L[i]? = some z:=⟨_,List.getElem?_eq_getElem h⟩
     have hz2:(L.map AV.s)[i]? = some (.s z):=by rw [List.getElem?_map,hz]; rfl
     have hc:=hP z (List.mem_of_getElem? hz)
     have hw1:=Ap (show i+1 < 2^63 by omega)
     cases hp:P z with
     | true =>
       rw [hp] at hc
       have hix:PA P L=(i:Int):=by
        unfold PA
        have:L.findIdx? P=some i:=by
         rw [List.findIdx?_eq_some_iff_getElem]
         rw [List.getElem?_eq_some_iff] at hz
         obtain ⟨h1,hz⟩:=hz
         exact ⟨h1,by rw [hz]; exact hp,fun j hj=>by simpa using hb j hj _ (List.getElem?_eq_getElem (by omega))⟩
        rw [this]
       rw [hix]
       simp only [go_sem,AD,AA,AC,AB,KB_n,KB_x,Nat.reduceBEq,Nat.reduceAdd,Nat.reduceLT,Nat.reduceLeDiff,Nat.reduceEqDiff,reduceIte,Int.reduceEq,reduceCtorEq,g0,g1,g7,g8,tx,h1,AJ,hz2,BZ,C7,hc]
       exact AQ (Over.enter s) rfl rfl
     | false =>
       rw [hp] at hc
       simp only [go_sem,AD,AA,AC,AB,KB_n,KB_x,Nat.reduceBEq,Nat.reduceAdd,Nat.reduceLT,Nat.reduceLeDiff,Nat.reduceEqDiff,reduceIte,Int.reduceEq,reduceCtorEq,g0,g1,g7,g8,tx,h1,AJ,hz2,BZ,C7,hc,hw1]
       refine ⟨x - 1,by omega,i+1,by omega,fun j hj y hy=>?_,rfl⟩
       rcases Nat.lt_or_ge j i with hlt | hge
       · exact hb j hlt y hy
       · obtain rfl:j=i:=by omega
         rw [hz] at hy; cases hy; exact hp
   · have h1:((i:Int) < (L.length:Int))=False:=eq_false (by omega)
     have hix:PA P L = -1:=by
      unfold PA
      have:L.findIdx? P=none:=by
       rw [List.findIdx?_eq_none_iff]
       intro z hz
       obtain ⟨j,hj⟩:=List.mem_iff_getElem?.1 hz
       exact hb j (by rw [List.getElem?_eq_some_iff] at hj; have:=hj.1; omega) z hj
      rw [this]
     rw [hix]
     simp only [go_sem,AD,AA,AC,AB,KB_n,KB_x,Nat.reduceBEq,Nat.reduceAdd,Nat.reduceLT,Nat.reduceLeDiff,Nat.reduceEqDiff,reduceIte,Int.reduceEq,reduceCtorEq,g0,g1,g7,g8,h1]
     exact AQ (Over.enter s) rfl rfl
 · simp only [go_sem,AD,AA,AC,AB,KB_n,KB_x,Nat.reduceBEq,Nat.reduceAdd,Nat.reduceLT,Nat.reduceLeDiff,Nat.reduceEqDiff,reduceIte,Int.reduceEq,reduceCtorEq]
   exact ⟨0,by omega,fun j hj=>by omega,rfl⟩
theorem Gh (L:List (List Nat)) (hL:L.length < 2^62) (g:Nat) (caps:List AV) (P:List Nat→Bool) (s:St) (hw:Wf s) (hP:∀ z∈L,FR (lim prog) (.fn g caps) [.s z] s.enter.enter=some (.b (P z),s.enter.enter)) :
    (lim prog).call A7 [tx L,.fn g caps] s=some (.b (L.any P),s):=by
 refine fn_W Dm rfl rfl ?_
 have hz0:wkZ Ab.cin [tx L,.fn g caps]=[tx L,.fn g caps]:=by simp [Ab,wkZ,wk,tx,Lb]
 have h1:=M9 L hL g caps P s.enter hw.enter hP
 rw [hz0]
 unfold tx at h1
 simp only [Ab,go_sem,AD,AA,AC,AB,KB_n,KB_x,Nat.reduceBEq,Nat.reduceAdd,Nat.reduceLT,Nat.reduceLeDiff,Nat.reduceEqDiff,reduceIte,Int.reduceEq,reduceCtorEq,h1,tx,TL]
 exact AQ (Over.enter s) rfl (by cases h:L.any P<;>rfl)
theorem TM (L:List Int) (hL:L.length < 2^62) (k:Int) {a:AV} (ha:Bo 1 a (L.map iv)) (s:St) (hw:Wf s) :
    (lim prog).call DD [a,.i .i64 k] s=some (.i .i64 (N9 (fun z=>decide (k=z)) L),s):=by
 refine fn_W Gs rfl rfl ?_
 have hz0:wkZ BQ.cin [a,.i .i64 k]=[zx L,.i .i64 k]:=by simp [BQ,wkZ,wk,ha.wk (R5 L),zx]
 rw [hz0]
 simp only [BQ,go_sem,AD,AA,AC,AB,KB_n,KB_x,Nat.reduceBEq,Nat.reduceAdd,Nat.reduceLT,Nat.reduceLeDiff,Nat.reduceEqDiff,reduceIte,Int.reduceEq,reduceCtorEq,zx,List.length_map]
 refine Bv (fun x e q=>∃ i:Nat,i+x=L.length∧q=s.enter∧(∀ j,j < i→∀ y,L[j]? = some y→decide (k=y)=false)∧e.get 0=zx L∧e.get 1=.i .i64 k∧e.get 7=.i .i64 (L.length:Nat)∧e.get 8=.i .i64 (i:Nat)) ?_ L.length _ _ ?_
 · rintro x e q ⟨i,hi,rfl,hb,g0,g1,g7,g8⟩
   by_cases h:i < L.length
   · have h1:((i:Int) < (L.length:Int))=True:=eq_true (by omega)
     obtain ⟨z,hz⟩:∃ z,L[i]? = some z:=⟨_,List.getElem?_eq_getElem h⟩
     have hz2:=OB hz
     have hw1:=Ap (show i+1 < 2^63 by omega)
     by_cases hp:k=z
     · have e1:(k=z)=True:=by simp [hp]
       rw [QR hz (by simp [hp]) hb]
       simp only [go_sem,AD,AA,AC,AB,KB_n,KB_x,Nat.reduceBEq,Nat.reduceAdd,Nat.reduceLT,Nat.reduceLeDiff,Nat.reduceEqDiff,reduceIte,Int.reduceEq,reduceCtorEq,g0,g1,g7,g8,zx,h1,AJ,hz2,Ev,C7,e1]
       exact AQ (Over.enter s) rfl rfl
     · have e1:(k=z)=False:=by simp [hp]
       simp only [go_sem,AD,AA,AC,AB,KB_n,KB_x,Nat.reduceBEq,Nat.reduceAdd,Nat.reduceLT,Nat.reduceLeDiff,Nat.reduceEqDiff,reduceIte,Int.reduceEq,reduceCtorEq,g0,g1,g7,g8,zx,h1,AJ,hz2,Ev,C7,e1,hw1]
       refine ⟨x - 1,by omega,i+1,by omega,fun j hj y hy=>?_,rfl⟩
       rcases Nat.lt_or_ge j i with hlt | hge
       · exact hb j hlt y hy
       · obtain rfl:j=i:=by omega
         rw [hz] at hy; cases hy; simpa using hp
   · have h1:((i:Int) < (L.length:Int))=False:=eq_false (by omega)
     rw [QS fun j hj=>hb j (by omega)]
     simp only [go_sem,AD,AA,AC,AB,KB_n,KB_x,Nat.reduceBEq,Nat.reduceAdd,Nat.reduceLT,Nat.reduceLeDiff,Nat.reduceEqDiff,reduceIte,Int.reduceEq,reduceCtorEq,g0,g1,g7,g8,h1]
     exact AQ (Over.enter s) rfl rfl
 · simp only [go_sem,AD,AA,AC,AB,KB_n,KB_x,Nat.reduceBEq,Nat.reduceAdd,Nat.reduceLT,Nat.reduceLeDiff,Nat.reduceEqDiff,reduceIte,Int.reduceEq,reduceCtorEq]
   exact ⟨0,by omega,fun j hj=>by omega,rfl,rfl⟩
theorem OG (L:List Int) (hL:L.length < 2^62) (k:Int) {a:AV} (ha:Bo 1 a (L.map iv)) (s:St) (hw:Wf s) :
    (lim prog).call Ci [a,.i .i64 k] s=some (.b (decide (k∈L)),s):=by
 refine fn_W Fk rfl rfl ?_
 have hz0:wkZ BB.cin [a,.i .i64 k]=[zx L,.i .i64 k]:=by simp [BB,wkZ,wk,ha.wk (R5 L),zx]
 have h1:=TM L hL k (a:=zx L) .ws s.enter hw.enter
 rw [hz0]
 unfold zx at h1
 have hany:(L.any (fun z=>decide (k=z))=true)=(k∈L):=by simp [List.any_eq_true]
 simp only [BB,go_sem,AD,AA,AC,AB,KB_n,KB_x,Nat.reduceBEq,Nat.reduceAdd,Nat.reduceLT,Nat.reduceLeDiff,Nat.reduceEqDiff,reduceIte,Int.reduceEq,reduceCtorEq,h1,zx,OA,hany]
 exact AQ (Over.enter s) rfl rfl
def FO (f:FT) (m:Nat) (x:List Nat):Bool:=match f.names.findIdx? (·==x) with
 | some i=>match f.kids[i]? with
   | some k=>decide (k∈(Fj f.kids).take m)
   | none=>false
 | none=>false
theorem QW:∀ (p:Option (List Nat)) (L:List (List Nat)),ascN p L=true→Asc L∧∀ q,p=some q→∀ x∈L,ltN q x=true
 | p,[],_=>⟨fun _ h=>by simp at h,fun _ _ x hx=>by simp at hx⟩
 | p,s::ns,h=>by
   simp only [ascN,Bool.and_eq_true] at h
   obtain ⟨h1,h2,h3⟩:=h
   obtain ⟨k1,k2⟩:=QW (some s) ns h3
   refine ⟨fun {i j a b} hij ha hb=>?_,fun q hq x hx=>?_⟩
   · cases j with
     | zero=>omega
     | succ j =>
       simp only [List.getElem?_cons_succ] at hb
       cases i with
       | zero =>
         simp only [List.getElem?_cons_zero,Option.some.injEq] at ha
         subst ha
         exact k2 s rfl b (List.mem_of_getElem? hb)
       | succ i =>
         simp only [List.getElem?_cons_succ] at ha
         exact k1 (by omega) ha hb
   · subst hq
     simp only at h2
     rcases List.mem_cons.1 hx with rfl | hx
     · exact h2
     · exact HI h2 (k2 s rfl x hx)
theorem TN {f:FT} (h:f.one=true):Asc f.names:=by
 unfold FT.one at h
 simp only [Bool.and_eq_true] at h
 split at h
 · simp only [Bool.and_eq_true] at h
   exact (QW none _ h.2.1).1
 · simp only [Bool.and_eq_true,decide_eq_true_eq,List.length_eq_zero_iff] at h
   rw [h.2.1]
   exact fun _ h=>by simp at h
theorem OH {f:FT} (ho:f.Ok) (h1:f.one=true) {m:Nat} {q:St} (hw:Wf q) {b b2:Nat} (hb:q.box? b=some (.cells 60 f.cells)) (lb:b < q.nb) {a:AV} (ha:Bo 1 a (((Fj f.kids).take m).map iv)) (hb2:q.box? b2=some (.cells 37 [a])) (lb2:b2 < q.nb) (x:List Nat) :
    FR (lim prog) (.fn Aq [.p b 0,.p b2 0]) [.s x] q=some (.b (FO f m x),q):=by
 show (lim prog).call Aq [.s x,.p b 0,.p b2 0] q=_
 refine fn_W LJ rfl rfl ?_
 have hz0:wkZ CO.cin [.s x,.p b 0,.p b2 0]=[.s x,.p b 0,.p b2 0]:=by simp only [CO,wkZ,wk]
 rw [hz0]
 have ln:=JX (Over.enter q) (off:=2) (v:=tx f.names) lb hb rfl
 have lk:=JX (Over.enter q) (off:=3) (v:=zx f.kids) lb hb rfl
 have lr:=JX (Over.enter q) (off:=0) (v:=a) lb2 hb2 rfl
 obtain ⟨p,hp,hbs⟩:=MA f.names x (TN h1) (by have:=ho.nlen; omega) q.enter
 have hidx:=TV (TN h1) hp
 have hnk:=E9 h1
 unfold tx at hbs
 by_cases hx:f.names[p]? = some x
 · rw [decide_eq_true hx] at hbs
   rw [if_pos hx] at hidx
   obtain ⟨k,hk⟩:∃ k,f.kids[p]? = some k:=⟨_,List.getElem?_eq_getElem (by rw [List.getElem?_eq_some_iff] at hx; have:=hx.1; omega)⟩
   have hk2:=OB hk
   have hci:=OG ((Fj f.kids).take m) (by have:=ho.klen; rw [List.length_take,HC]; omega) k ha q.enter hw.enter
   have hap:FO f m x=decide (k∈(Fj f.kids).take m):=by unfold FO; rw [hidx]; simp only [hk]
   rw [hap]
   have hld:=ha.ld
   have hpu:=ha.pub q.enter
   have hnt:=ha.noTok
   simp only [CO,go_sem,AD,AA,AC,AB,KB_n,KB_x,Nat.reduceBEq,Nat.reduceAdd,Nat.reduceLT,Nat.reduceLeDiff,Nat.reduceEqDiff,reduceIte,Int.reduceEq,reduceCtorEq,Nat.zero_add,tx,zx,ln,lk,lr,hbs,AJ,hk2,Ev,C7,hld.1,hld.2,hpu,hnt,hci]
   exact AQ (Over.enter q) rfl rfl
 · rw [decide_eq_false hx] at hbs
   rw [if_neg hx] at hidx
   have hap:FO f m x=false:=by unfold FO; rw [hidx]
   rw [hap]
   simp only [CO,go_sem,AD,AA,AC,AB,KB_n,KB_x,Nat.reduceBEq,Nat.reduceAdd,Nat.reduceLT,Nat.reduceLeDiff,Nat.reduceEqDiff,reduceIte,Int.reduceEq,reduceCtorEq,Nat.zero_add,tx,ln,hbs]
   exact AQ (Over.enter q) rfl rfl
theorem slc_zx {L:List Int} {m:Nat} (hm:m≤L.length) (q:St):∃ a,BW q false 1 (.ws false 1 (L.map iv)) none (some (.i .i64 (m:Nat))) none=some (a,q)∧Bo 1 a ((L.take m).map iv):=by
 unfold BW CM
 simp only [AJ,List.length_map,if_true,Nat.zero_le,hm,and_self,List.drop_zero,Nat.sub_zero]
 split
 · rename_i h
   exact ⟨_,rfl,by rw [h.2,List.take_length]; exact .ws⟩
 · rw [← List.map_take]
   first
    | exact ⟨_,rfl,.ws⟩
    | exact ⟨_,rfl,.inr (.inr (.inr (.inl rfl)))⟩
    | (split<;>first | exact ⟨_,rfl,.ws⟩ | exact ⟨_,rfl,.inr (.inr (.inr (.inl rfl)))⟩ | exact ⟨_,rfl,.inr (.inr (.inl rfl))⟩)
theorem Vg {f:FT} (ho:f.Ok) {m:Nat} (hm:m≤f.kids.length) {s0 q:St} {n:En} {R:List RA} {B:List (Nat×Box)} (H:Hp s0 q n R B) :
    ∃ q' a b b2,(lim prog).call DU [.agg f.cells,.i .i64 (m:Nat)] q=some (.fn Aq [.p b 0,.p b2 0],q')∧Hp s0 q' n R ((b2,.cells 37 [a])::(b,.cells 60 f.cells)::B)∧Bo 1 a (((Fj f.kids).take m).map iv):=by
 obtain ⟨r,q',h,b,b2,a,rfl,H',ht⟩:=fn_G (f:=DU) (args:=[.agg f.cells,.i .i64 (m:Nat)]) (s:=q) (Post:=fun r q'=>∃ b b2 a,r=.fn Aq [.p b 0,.p b2 0]∧Hp s0 q' n R ((b2,.cells 37 [a])::(b,.cells 60 f.cells)::B)∧Bo 1 a (((Fj f.kids).take m).map iv)) M3 rfl rfl (by
  have hz0:wkZ DX.cin [.agg f.cells,.i .i64 (m:Nat)]=[.agg f.cells,.i .i64 (m:Nat)]:=by simp only [DX,wkZ,wk,YA]
  rw [hz0]
  have c6:f.cells.length=6:=rfl
  have H1:=H.enter.new (.cells 60 f.cells)
  obtain ⟨q1,hq1⟩:∃ q1,q.enter.new (.cells 60 f.cells)=q1:=⟨_,rfl⟩
  have e0:q.enter.nb=q.nb:=rfl
  rw [hq1,e0] at H1
  have lk:=H1.ld 0 (off:=3) (v:=zx f.kids) rfl rfl
  have hv:=TK f.kids q1
  have H2:=(H1.new (.cells 37 [zx f.kids])).setLo (m:=min q1.lo q1.nb) (Nat.le_trans (Nat.min_le_left _ _) H1.lo) (by have:=H1.over.lo; have:=H1.over.nb; omega)
  obtain ⟨q2,hq2⟩:∃ q2,{ q1.new (.cells 37 [zx f.kids]) with lo:=min q1.lo q1.nb }=q2:=⟨_,rfl⟩
  rw [hq2] at H2 hv
  have hbx:=H2.box (i:=0) rfl
  have hs:=TJ (L:=f.kids) (by have:=ho.klen; omega) H2.wf (a:=q1.nb) hbx.1 hbx.2.2
  obtain ⟨a,d3,ta⟩:=slc_zx (L:=Fj f.kids) (m:=m) (by rw [HC]; exact hm) q2
  have H3:=H2.new (.cells 37 [.nsl])
  have tc:=ta.cells
  obtain ⟨q4,d4,H4,n4,_⟩:=H3.st 0 (off:=0) (v:=a) rfl (by simp) ⟨tc.1,tc.2.1⟩
  simp only [zx] at hv hs
  simp only [DX,go_sem,AD,AA,AC,AB,KB_n,KB_x,Nat.reduceBEq,Nat.reduceAdd,Nat.reduceLT,Nat.reduceLeDiff,Nat.reduceEqDiff,reduceIte,Int.reduceEq,reduceCtorEq,Cn,c6,hq1,e0,zx,lk,hv,hs,d3,d4]
  simp only [List.set_cons_zero] at H4
  refine ⟨_,_,rfl,q.nb,q2.nb,a,rfl,?_,ta⟩
  have H5:=H4.sel (List.range R.length) (0::2::(List.range' 3 B.length)) List.nodup_range (by
   refine List.nodup_cons.2 ⟨by simp,List.nodup_cons.2 ⟨by simp,List.nodup_range'⟩⟩)
  rw [Ds] at H5
  have hpk:∀ (x y z:Nat×Box),pick (x::y::z::B) (0::2::List.range' 3 B.length)=x::z::B:=fun x y z=>by
   have:pick (x::y::z::B) (List.range' 3 B.length)=B:=by
    have h1:List.range' 3 B.length=(((List.range B.length).map (·+1)).map (·+1)).map (·+1):=by
     apply List.ext_getElem<;>simp; omega
    rw [h1,EY,EY,EY,Ds]
   simp only [pick,List.getElem?_cons_zero,List.getElem?_cons_succ,this]
  rw [hpk] at H5
  exact H.leaveR (n1:=q.en) (v:=Bt [AV.fn Aq [.p q.nb 0,.p q2.nb 0]]) H5 rfl)
 exact ⟨q',a,b,b2,h,H',ht⟩
def C2 (f:FT) (L:List (List Nat)):Bool :=
 if f.rest=1 then !(L.any fun x=>!FO f f.names.length x) else if f.rest=2 then L.any fun x=>!FO f f.beside.toNat x else true
theorem PB {f:FT} (ho:f.Ok) (h1:f.one=true) {m:Nat} {q:St} (hw:Wf q) {b b2 b3:Nat} (hb:q.box? b=some (.cells 60 f.cells)) (lb:b < q.nb) {a:AV} (ha:Bo 1 a (((Fj f.kids).take m).map iv)) (hb2:q.box? b2=some (.cells 37 [a])) (lb2:b2 < q.nb) (hb3:q.box? b3=some (.cells 88 [.fn Aq [.p b 0,.p b2 0]])) (lb3:b3 < q.nb) (x:List Nat) :
    FR (lim prog) (.fn Co [.p b3 0]) [.s x] q=some (.b (!FO f m x),q):=by
 show (lim prog).call Co [.s x,.p b3 0] q=_
 refine fn_W JT rfl rfl ?_
 have hz0:wkZ CI.cin [.s x,.p b3 0]=[.s x,.p b3 0]:=by simp only [CI,wkZ,wk]
 rw [hz0]
 have l0:=JX (Over.enter q) (off:=0) (v:=.fn Aq [.p b 0,.p b2 0]) lb3 hb3 rfl
 have hc:=OH ho h1 hw.enter (m:=m) (b:=b) (b2:=b2) (a:=a) (q:=q.enter) hb lb ha hb2 lb2 x
 simp only [CI,go_sem,AD,AA,AC,AB,KB_n,KB_x,Nat.reduceBEq,Nat.reduceAdd,Nat.reduceLT,Nat.reduceLeDiff,Nat.reduceEqDiff,reduceIte,Int.reduceEq,reduceCtorEq,Nat.zero_add,l0,hc]
 exact AQ (Over.enter q) rfl rfl
theorem PC {f:FT} (ho:f.Ok) (h1:f.one=true) {m:Nat} {q:St} (hw:Wf q) {b b2 b3:Nat} (hb:q.box? b=some (.cells 60 f.cells)) (lb:b < q.nb) {a:AV} (ha:Bo 1 a (((Fj f.kids).take m).map iv)) (hb2:q.box? b2=some (.cells 37 [a])) (lb2:b2 < q.nb) (hb3:q.box? b3=some (.cells 88 [.fn Aq [.p b 0,.p b2 0]])) (lb3:b3 < q.nb) (x:List Nat) :
    FR (lim prog) (.fn Cp [.p b3 0]) [.s x] q=some (.b (!FO f m x),q):=by
 show (lim prog).call Cp [.s x,.p b3 0] q=_
 refine fn_W JU rfl rfl ?_
 have hz0:wkZ CJ.cin [.s x,.p b3 0]=[.s x,.p b3 0]:=by simp only [CJ,wkZ,wk]
 rw [hz0]
 have l0:=JX (Over.enter q) (off:=0) (v:=.fn Aq [.p b 0,.p b2 0]) lb3 hb3 rfl
 have hc:=OH ho h1 hw.enter (m:=m) (b:=b) (b2:=b2) (a:=a) (q:=q.enter) hb lb ha hb2 lb2 x
 simp only [CJ,go_sem,AD,AA,AC,AB,KB_n,KB_x,Nat.reduceBEq,Nat.reduceAdd,Nat.reduceLT,Nat.reduceLeDiff,Nat.reduceEqDiff,reduceIte,Int.reduceEq,reduceCtorEq,Nat.zero_add,l0,hc]
 exact AQ (Over.enter q) rfl rfl
theorem RJ {f:FT} (h:f.one=true) (h2:f.rest=2):0≤f.beside∧f.beside≤(f.kids.length:Int):=by
 have hnk:=E9 h
 unfold FT.one at h
 simp only [Bool.and_eq_true] at h
 split at h
 · simp only [Bool.and_eq_true,FT.restB,if_pos h2,decide_eq_true_eq] at h
   omega
 · simp only [Bool.and_eq_true,decide_eq_true_eq] at h
   omega
theorem RK (f:FT) (ho:f.Ok) (h1:f.one=true) (L:List (List Nat)) (hL:L.length < 2^62) (s:St) (hw:Wf s):(lim prog).call FK [.agg f.cells,tx L] s=some (.b (C2 f L),s):=by
 refine fn_W LI rfl rfl ?_
 have hz0:wkZ Bx.cin [.agg f.cells,tx L]=[.agg f.cells,tx L]:=by simp only [Bx,wkZ,wk,YA,tx,Lb]
 rw [hz0]
 have c6:f.cells.length=6:=rfl
 have e0:s.enter.nb=s.nb:=rfl
 have H1:=(Hp.begin hw).new (.cells 60 f.cells)
 obtain ⟨q1,hq1⟩:∃ q1,s.enter.new (.cells 60 f.cells)=q1:=⟨_,rfl⟩
 rw [hq1,e0] at H1
 have lw:=H1.ldw (m:=6) 0 rfl rfl
 have ln:=H1.ld 0 (off:=2) (v:=tx f.names) rfl rfl
 have lr:=H1.ld 0 (off:=4) (v:=.i .i64 f.rest) rfl rfl
 have lbs:=H1.ld 0 (off:=5) (v:=.i .i64 f.beside) rfl rfl
 have hnk:=E9 h1
 have pvf:=Cs f
 have key:∀ m:Nat,m≤f.kids.length→∃ q2 q4 b b2 b3 a,(lim prog).call DU [.agg f.cells,.i .i64 (m:Nat)] q1=some (.fn Aq [.p b 0,.p b2 0],q2)∧b3=q2.nb∧stA (q2.new (.cells 88 [.nf])) 1 (.p q2.nb 0) (.fn Aq [.p b 0,.p b2 0])=some q4∧Hp s q4 s.en [] [(b3,.cells 88 [.fn Aq [.p b 0,.p b2 0]]),(b2,.cells 37 [a]),(b,.cells 60 f.cells),(s.nb,.cells 60 f.cells)]∧Bo 1 a (((Fj f.kids).take m).map iv):=by
  intro m hm
  obtain ⟨q2,a,b,b2,d2,H2,ta⟩:=Vg ho hm H1
  have H3:=H2.new (.cells 88 [.nf])
  obtain ⟨q4,d4,H4,n4,_⟩:=H3.st 0 (off:=0) (v:=.fn Aq [.p b 0,.p b2 0]) rfl (by simp) ⟨rfl,rfl⟩
  exact ⟨q2,q4,b,b2,q2.nb,a,d2,rfl,d4,H4,ta⟩
 by_cases r1:f.rest=1
 · have e1:(f.rest=1)=True:=by simp [r1]
   obtain ⟨q2,q4,b,b2,b3,a,d2,rfl,d4,H4,ta⟩:=key f.names.length (by omega)
   have x0:=H4.box (i:=0) rfl
   have x1:=H4.box (i:=1) rfl
   have x2:=H4.box (i:=2) rfl
   have hcf:=Gh L hL Co [.p q2.nb 0] (fun x=>!FO f f.names.length x) q4 H4.wf fun z hz=>PB ho h1 H4.wf.enter.enter (q:=q4.enter.enter) x2.1 x2.2.2 ta x1.1 x1.2.2 x0.1 x0.2.2 z
   have hep:C2 f L=!(L.any fun x=>!FO f f.names.length x):=by unfold C2; rw [if_pos r1]
   rw [hep]
   unfold tx at hcf
   simp only [Bx,go_sem,AD,AA,AC,AB,KB_n,KB_x,Nat.reduceBEq,Nat.reduceAdd,Nat.reduceLT,Nat.reduceLeDiff,Nat.reduceEqDiff,reduceIte,Int.reduceEq,reduceCtorEq,Cn,c6,hq1,e0,Nat.zero_add,lw,ln,lr,pvf,tx,List.length_map,e1,d2,d4,hcf]
   exact AQ H4.over rfl rfl
 · have e1:(f.rest=1)=False:=by simp [r1]
   by_cases r2:f.rest=2
   · have e2:(f.rest=2)=True:=by simp [r2]
     have hbb:=RJ h1 r2
     obtain ⟨m,hm⟩:∃ m:Nat,f.beside=(m:Int):=⟨f.beside.toNat,by omega⟩
     obtain ⟨q2,q4,b,b2,b3,a,d2,rfl,d4,H4,ta⟩:=key m (by omega)
     have x0:=H4.box (i:=0) rfl
     have x1:=H4.box (i:=1) rfl
     have x2:=H4.box (i:=2) rfl
     have hcf:=Gh L hL Cp [.p q2.nb 0] (fun x=>!FO f m x) q4 H4.wf fun z hz=>PC ho h1 H4.wf.enter.enter (q:=q4.enter.enter) x2.1 x2.2.2 ta x1.1 x1.2.2 x0.1 x0.2.2 z
     have hep:C2 f L=(L.any fun x=>!FO f m x):=by unfold C2; rw [if_neg r1,if_pos r2,hm,Int.toNat_natCast]
     rw [hep]
     unfold tx at hcf
     simp only [Bx,go_sem,AD,AA,AC,AB,KB_n,KB_x,Nat.reduceBEq,Nat.reduceAdd,Nat.reduceLT,Nat.reduceLeDiff,Nat.reduceEqDiff,reduceIte,Int.reduceEq,reduceCtorEq,Cn,c6,hq1,e0,Nat.zero_add,lw,lr,lbs,hm,pvf,tx,e1,e2,d2,d4,hcf]
     exact AQ H4.over rfl rfl
   · have e2:(f.rest=2)=False:=by simp [r2]
     have hep:C2 f L=true:=by unfold C2; rw [if_neg r1,if_neg r2]
     rw [hep]
     simp only [Bx,go_sem,AD,AA,AC,AB,KB_n,KB_x,Nat.reduceBEq,Nat.reduceAdd,Nat.reduceLT,Nat.reduceLeDiff,Nat.reduceEqDiff,reduceIte,Int.reduceEq,reduceCtorEq,Cn,c6,hq1,e0,Nat.zero_add,lr,e1,e2]
     exact AQ H1.over rfl rfl

def Hg (l:List FT) (root:ND) (n:Int):Option ND:=if (Fd l n).2=0 then findP root (Fd l n).1 else none
theorem TO {l:List FT} (ho:FOk l) (n:Int):(Fd l n).1.length < 2^34:=by
 unfold Fd
 cases hm:mayP l
 · rw [if_neg (by simp)]; simp
 · rw [if_pos rfl]
   split
   · have:=ON (mayD hm) n.toNat (by omega)
     have:=ho.len
     simp only; omega
   · simp
theorem Vh {root:ND} (hr:root.Ok) (l:List FT) (n:Int):(foundN (Hg l root n)).Ok:=by
 unfold Hg
 split
 · exact M8 hr _
 · exact Wa
theorem Df {n:ND} (h:mayN n=true):CH n=true:=by
 unfold mayN at h
 simp only [Bool.and_eq_true] at h
 exact h.2.1
theorem YE (l:List FT) (ho:FOk l) (root:ND) (hr:root.Ok) (hwl:CH root=true) (n:Int) (s:St) (hw:Wf s) :
    (lim prog).call HE [fx l,.agg root.cells,.i .i64 n] s=some (.tup [.agg (foundN (Hg l root n)).cells,.b (Hg l root n).isSome],s):=by
 refine fn_W N1 rfl rfl ?_
 have hz0:wkZ DM.cin [fx l,.agg root.cells,.i .i64 n]=[fx l,.agg root.cells,.i .i64 n]:=by
  simp only [DM,wkZ,IA .ws,wk]
  simp [ND.cells,wkZ,wk,fx]
 rw [hz0]
 have e0:s.enter.nb=s.nb:=rfl
 have H1:=((Hp.begin hw).new (.cells 47 root.cells)).new (.cells 47 [.i .u8 0,.s [],.nsl,.nsl])
 have e1:(s.enter.new (.cells 47 root.cells)).nb=s.nb+1:=rfl
 obtain ⟨q1,hq1⟩:∃ q1,(s.enter.new (.cells 47 root.cells)).new (.cells 47 [.i .u8 0,.s [],.nsl,.nsl])=q1:=⟨_,rfl⟩
 rw [hq1,e1,e0] at H1
 have lw:=H1.ldw (m:=4) 1 rfl rfl
 have hp:=Vr l ho n q1 H1.wf
 unfold fx tx at hp
 by_cases hz:(Fd l n).2=0
 · have e2:((Fd l n).2≠0)=False:=by simp [hz]
   have hx0:Hg l root n=findP root (Fd l n).1:=by unfold Hg; rw [if_pos hz]
   have hat:=RI root hr hwl (Fd l n).1 (by have:=TO ho n; omega) q1 H1.wf
   rw [← hx0] at hat
   obtain ⟨x,hx⟩:∃ x,foundN (Hg l root n)=x:=⟨_,rfl⟩
   rw [hx] at hat ⊢
   obtain ⟨q3,d3,H3,n3,_⟩:=H1.stw 0 (m:=4) (v:=.agg x.cells) rfl rfl ⟨Af x,Lh x⟩
   have lr:=H3.ldw (m:=4) 0 rfl rfl
   simp only [Cn] at lr
   simp only [tx] at hat
   simp only [DM,go_sem,AD,AA,AC,AB,KB_n,KB_x,Nat.reduceBEq,Nat.reduceAdd,Nat.reduceLT,Nat.reduceLeDiff,Nat.reduceEqDiff,reduceIte,Int.reduceEq,reduceCtorEq,Af,hq1,e1,e0,fx,hp,e2,lw,hat,d3,lr,AR,LM]
   exact KR_N H3.over x _
 · have e2:((Fd l n).2≠0)=True:=by simp [hz]
   have hx0:Hg l root n=none:=by unfold Hg; rw [if_neg hz]
   rw [hx0]
   obtain ⟨q3,d3,H3,n3,_⟩:=H1.stw 0 (m:=4) (v:=.agg [.i .u8 0,.s [],.nsl,.nsl]) rfl rfl ⟨rfl,rfl⟩
   have lr:=H3.ldw (m:=4) 0 rfl rfl
   simp only [Cn] at lr
   simp only [DM,go_sem,AD,AA,AC,AB,KB_n,KB_x,Nat.reduceBEq,Nat.reduceAdd,Nat.reduceLT,Nat.reduceLeDiff,Nat.reduceEqDiff,reduceIte,Int.reduceEq,reduceCtorEq,Af,hq1,e1,e0,fx,hp,e2,Dc,d3,lr]
   exact AQ H3.over rfl rfl
def F7 (l:List FT) (root:ND) (i:Nat):Bool:=match l[i]? with
 | some f=>f.known&&(decide ((foundN (Hg l root i)).kind≠f.kind)||(decide ((foundN (Hg l root i)).kind=2)&&!C2 f (foundN (Hg l root i)).names))
 | none=>false
def El (l:List FT) (root:ND):Int×Int:=if mayP l&&mayN root then (match (List.range l.length).find? (F7 l root) with
 | some i=>((i:Int),0)
 | none=>(-1,0)) else (0,4)
theorem RL {P:Nat→Bool} {n i:Nat} (hi:i < n) (hp:P i=true) (hno:∀ j,j < i→P j=false):(List.range n).find? P=some i:=by
 rw [List.find?_range_eq_some]
 exact ⟨hp,by simpa using hi,fun j hj=>by simpa using hno j hj⟩
theorem LL {P:Nat→Bool} {n:Nat} (hno:∀ j,j < n→P j=false):(List.range n).find? P=none:=by
 rw [List.find?_eq_none]
 intro x hx
 rw [List.mem_range] at hx
 simpa using hno x hx
theorem Vi {s q:St} (ov:Over s q) (a b:Int):KR s [.id,.id] (.tup [.i .i64 a,.i .i64 b]) (some ([.i .i64 a,.i .i64 b],q)):=AQ ov rfl rfl
theorem Vj (l : List FT) (ho:FOk l) (root:ND) (hr:root.Ok) (hb:nodesN root < 2^62) (s:St) (hw:Wf s) :
    (lim prog).call Er [fx l,.agg root.cells] s=some (.tup [.i .i64 (El l root).1,.i .i64 (El l root).2],s):=by
 refine fn_W My rfl rfl ?_
 have hz0:wkZ Cd.cin [fx l,.agg root.cells]=[fx l,.agg root.cells]:=by
  simp only [Cd,wkZ,IA .ws,wk]
  simp [ND.cells,wkZ,wk,fx]
 rw [hz0]
 have e0:s.enter.nb=s.nb:=rfl
 have H1:=(Hp.begin hw).new (.cells 47 root.cells)
 obtain ⟨q1,hq1⟩:∃ q1,s.enter.new (.cells 47 root.cells)=q1:=⟨_,rfl⟩
 rw [hq1,e0] at H1
 have lw:=H1.ldw (m:=4) 0 rfl rfl
 have hmay:=TF l ho.ok ho.len ho.fl q1 H1.wf
 have hmn:=TU root hr hb q1 H1.wf
 unfold fx at hmay
 cases hm:mayP l with
 | false =>
   rw [hm] at hmay
   simp only [Cd,go_sem,AD,AA,AC,AB,KB_n,KB_x,Nat.reduceBEq,Nat.reduceAdd,Nat.reduceLT,Nat.reduceLeDiff,Nat.reduceEqDiff,reduceIte,Int.reduceEq,reduceCtorEq,Af,hq1,e0,fx,hmay]
   unfold El
   rw [hm,if_neg (by simp)]
   exact Vi H1.over 0 4
 | true =>
   rw [hm] at hmay
   cases hn:mayN root with
   | false =>
     rw [hn] at hmn
     simp only [Cd,go_sem,AD,AA,AC,AB,KB_n,KB_x,Nat.reduceBEq,Nat.reduceAdd,Nat.reduceLT,Nat.reduceLeDiff,Nat.reduceEqDiff,reduceIte,Int.reduceEq,reduceCtorEq,Af,hq1,e0,fx,hmay,lw,AR,hmn]
     unfold El
     rw [hn,if_neg (by simp)]
     exact Vi H1.over 0 4
   | true =>
     rw [hn] at hmn
     have hwl:=Df hn
     simp only [Cd,go_sem,AD,AA,AC,AB,KB_n,KB_x,Nat.reduceBEq,Nat.reduceAdd,Nat.reduceLT,Nat.reduceLeDiff,Nat.reduceEqDiff,reduceIte,Int.reduceEq,reduceCtorEq,Af,hq1,e0,fx,hmay,lw,AR,hmn,List.length_map]
     refine Bv (fun x e q=>∃ (i:Nat) (B:List (Nat×Box)),i+x=l.length∧Hp s q s.en [] ((s.nb,.cells 47 root.cells)::B)∧(∀ j,j < i→F7 l root j=false)∧e.get 0=fx l∧e.get 3=.p s.nb 0∧e.get 18=.i .i64 (l.length:Nat)∧e.get 19=.i .i64 (i:Nat)) ?_ l.length _ _ ?_
     · rintro x e q ⟨i,B,hix,H,hno,g0,g3,g18,g19⟩
       by_cases h:i < l.length
       · have h1 : ((i:Int) < (l.length:Int))=True:=eq_true (by omega)
         obtain ⟨f,hf⟩:∃ f,l[i]? = some f:=⟨_,List.getElem?_eq_getElem h⟩
         have hfm:=List.mem_of_getElem? hf
         have hg:=N8 hf
         have hth:∀ u:St,He u (.ws false 6 (l.map FT.av))=some (.ws false 6 (l.map FT.av),u):=fun _=>rfl
         have lk0:∀ u:St,ldA u false 1 (.ep f.cells 0 .shut)=some (.b f.known):=fun _=>rfl
         have lk1:∀ u:St,ldA u false 1 (.ep f.cells 1 .shut)=some (.i .u8 (f.kind:Nat)):=fun _=>rfl
         have ldf:=F6 f
         have pvf:=Cs f
         have hall6:f.cells.all noTok=true:=rfl
         have hw1:=Ap (show i+1 < 2^63 by have:=ho.len; omega)
         cases hkn:f.known with
         | false =>
           rw [hkn] at lk0
           have hfb:F7 l root i=false:=by unfold F7; rw [hf]; simp [hkn]
           simp only [go_sem,AD,AA,AC,AB,KB_n,KB_x,Nat.reduceBEq,Nat.reduceAdd,Nat.reduceLT,Nat.reduceLeDiff,Nat.reduceEqDiff,reduceIte,Int.reduceEq,reduceCtorEq,g0,g3,g18,g19,fx,h1,hth,AJ,hg,Cn,Nat.zero_add,lk0,hw1]
           refine ⟨x - 1,by omega,i+1,B,by omega,H,fun j hj=>?_,rfl⟩
           by_cases hji:j < i
           · exact hno j hji
           · obtain rfl:j=i:=by omega
             exact hfb
         | true =>
           rw [hkn] at lk0
           have lw2:=H.ldw (m:=4) 0 rfl rfl
           have hnd:=YE l ho root hr hwl (i:Int) q H.wf
           have hxo:=Vh hr l (i:Int)
           obtain ⟨x',hx⟩:∃ x',foundN (Hg l root (i:Int))=x':=⟨_,rfl⟩
           have hfb:F7 l root i=(decide (x'.kind≠f.kind)||(decide (x'.kind=2)&&!C2 f x'.names)):=by unfold F7; rw [hf]; simp only [hkn,Bool.true_and,hx]
           rw [hx] at hnd hxo
           obtain ⟨q2,d2,H2,n2⟩:=H.adp (T:=47) (m:=4) (z:=[.i .u8 0,.s [],.nsl,.nsl]) (v:=.agg x'.cells) rfl ⟨Af x',Lh x'⟩
           have lx0:=H2.ld 0 (off:=0) (v:=.i .u8 (x'.kind:Nat)) rfl rfl
           have lx2:=H2.ld 0 (off:=2) (v:=tx x'.names) rfl rfl
           have hent:=RK f (ho.ok f hfm) (TH hm hfm) x'.names (by have:=hxo.names.2; omega) q2 H2.wf
           simp only [fx] at hnd
           simp only [tx] at hent lx2
           have hsel:=H2.sel [] (1::0::List.range' 2 B.length) (by simp) (by
            refine List.nodup_cons.2 ⟨by simp,List.nodup_cons.2 ⟨by simp,List.nodup_range'⟩⟩)
           have hpk:∀ (x y:Nat×Box),pick (x::y::B) (1::0::List.range' 2 B.length)=y::x::B:=fun x y=>by
            have:pick (x::y::B) (List.range' 2 B.length)=B:=by
             have h1:List.range' 2 B.length=((List.range B.length).map (·+1)).map (·+1):=by
              apply List.ext_getElem<;>simp; omega
             rw [h1,EY,EY,Ds]
            simp only [pick,List.getElem?_cons_zero,List.getElem?_cons_succ,this]
           rw [hpk] at hsel
           simp only [pick] at hsel
           have hstep:F7 l root i=false→∃ m,m < x∧∃ (i':Nat) (B':List (Nat×Box)),i'+m=l.length∧Hp s q2 s.en [] ((s.nb,.cells 47 root.cells)::B')∧(∀ j,j < i'→F7 l root j=false)∧i'=i+1:=fun hfb=>by
            refine ⟨x - 1,by omega,i+1,_,by omega,hsel,fun j hj=>?_,rfl⟩
            by_cases hji:j < i
            · exact hno j hji
            · obtain rfl:j=i:=by omega
              exact hfb
           have hfail:F7 l root i=true→KR s [.id,.id] (.tup [.i .i64 (El l root).1,.i .i64 (El l root).2]) (some ([.i .i64 (i:Nat),.i .i64 0],q2)):=fun hfb=>by
            have hfp:El l root=((i:Int),0):=by
             unfold El
             rw [hm,hn]
             simp only [Bool.and_self,if_true,RL h hfb hno]
            rw [hfp]
            exact Vi H2.over _ 0
           by_cases hk:x'.kind=f.kind
           · have e1:((x'.kind:Int)≠(f.kind:Int))=False:=by simp [hk]
             by_cases hk2:x'.kind=2
             · have e2:((x'.kind:Int)=2)=True:=by simp [hk2]
               cases hen:C2 f x'.names with
               | true =>
                 rw [hen] at hent
                 obtain ⟨m,hm1,i',B',k1,k2,k3,rfl⟩:=hstep (by rw [hfb]; simp [hk,hen])
                 simp only [go_sem,AD,AA,AC,AB,KB_n,KB_x,Nat.reduceBEq,Nat.reduceAdd,Nat.reduceLT,Nat.reduceLeDiff,Nat.reduceEqDiff,reduceIte,Int.reduceEq,reduceCtorEq,g0,g3,g18,g19,fx,h1,hth,AJ,hg,Cn,Nat.zero_add,lk0,lk1,lw2,AR,hnd,Af,d2,lx0,lx2,e1,e2,ldf,pvf,hall6,hent,hw1]
                 exact ⟨m,hm1,i+1,B',k1,k2,k3,rfl⟩
               | false =>
                 rw [hen] at hent
                 simp only [go_sem,AD,AA,AC,AB,KB_n,KB_x,Nat.reduceBEq,Nat.reduceAdd,Nat.reduceLT,Nat.reduceLeDiff,Nat.reduceEqDiff,reduceIte,Int.reduceEq,reduceCtorEq,g0,g3,g18,g19,fx,h1,hth,AJ,hg,Cn,Nat.zero_add,lk0,lk1,lw2,AR,hnd,Af,d2,lx0,lx2,e1,e2,ldf,pvf,hall6,hent]
                 exact hfail (by rw [hfb]; simp [hk2,hen])
             · have e2:((x'.kind:Int)=2)=False:=eq_false (by omega)
               obtain ⟨m,hm1,i',B',k1,k2,k3,rfl⟩:=hstep (by rw [hfb]; simp [hk,hk2]; intro hh; exact absurd (hk.trans hh) hk2)
               simp only [go_sem,AD,AA,AC,AB,KB_n,KB_x,Nat.reduceBEq,Nat.reduceAdd,Nat.reduceLT,Nat.reduceLeDiff,Nat.reduceEqDiff,reduceIte,Int.reduceEq,reduceCtorEq,g0,g3,g18,g19,fx,h1,hth,AJ,hg,Cn,Nat.zero_add,lk0,lk1,lw2,AR,hnd,Af,d2,lx0,e1,e2,hw1]
               exact ⟨m,hm1,i+1,B',k1,k2,k3,rfl⟩
           · have e1:((x'.kind:Int)≠(f.kind:Int))=True:=by simp only [ne_eq,eq_iff_iff,iff_true]; omega
             simp only [go_sem,AD,AA,AC,AB,KB_n,KB_x,Nat.reduceBEq,Nat.reduceAdd,Nat.reduceLT,Nat.reduceLeDiff,Nat.reduceEqDiff,reduceIte,Int.reduceEq,reduceCtorEq,g0,g3,g18,g19,fx,h1,hth,AJ,hg,Cn,Nat.zero_add,lk0,lk1,lw2,AR,hnd,Af,d2,lx0,e1]
             exact hfail (by rw [hfb]; simp [hk])
       · have h1:((i:Int) < (l.length:Int))=False:=eq_false (by omega)
         simp only [go_sem,AD,AA,AC,AB,KB_n,KB_x,Nat.reduceBEq,Nat.reduceAdd,Nat.reduceLT,Nat.reduceLeDiff,Nat.reduceEqDiff,reduceIte,Int.reduceEq,reduceCtorEq,g18,g19,h1]
         have hfp:El l root=(-1,0):=by
          unfold El
          rw [hm,hn]
          simp only [Bool.and_self,if_true,LL fun j (hj:j < l.length)=>hno j (by omega)]
         rw [hfp]
         exact Vi H.over (-1) 0
     · simp only [go_sem,AD,AA,AC,AB,KB_n,KB_x,Nat.reduceBEq,Nat.reduceAdd,Nat.reduceLT,Nat.reduceLeDiff,Nat.reduceEqDiff,reduceIte,Int.reduceEq,reduceCtorEq]
       exact ⟨0,[],by omega,H1,fun j hj=>by omega,rfl,rfl⟩
end Go.Proofs.Ytgloinighjdhlaa

namespace Go.Proofs.Ytgloinighjdhlaa
open Go.Proofs.Ytgloinighjdhlaa.Am
theorem RM (L:List Int):(Fj L).Perm L:=by
 unfold Fj; exact List.mergeSort_perm _ _
theorem PD {L:List (List Nat)} {x:List Nat} {i:Nat} (h:L[i]? = some x) (hno:∀ j,j < i→∀ y,L[j]? = some y→y≠x):L.findIdx? (·==x)=some i:=by
 rw [List.findIdx?_eq_some_iff_getElem]
 rw [List.getElem?_eq_some_iff] at h
 obtain ⟨hi,h⟩:=h
 exact ⟨hi,by simp [h],fun j hj=>by simpa using hno j hj _ (List.getElem?_eq_getElem (by omega))⟩

attribute [local irreducible] W WO WE WQ WD Tr.get Tr.set
def OO (t:List Nat):Bool:=decide (t.length≤256)&&!t.contains 0
theorem PM (t:List Nat) (hl:t.length < 2^62) (s:St):(lim prog).call DB [.s t] s=some (.b (OO t),s):=by
 refine fn_W Gq rfl rfl ?_
 simp only [CW,go_sem,AD,AA,AC,AB,KB_n,KB_x,Nat.reduceBEq,Nat.reduceAdd,Nat.reduceLT,Nat.reduceLeDiff,Nat.reduceEqDiff,reduceIte,Int.reduceEq,reduceCtorEq]
 refine Bv (fun x e q=>∃ i:Nat,i+x=t.length∧q=s.enter∧(t.take i).contains 0=false∧e.get 0=.s t∧e.get 3=.i .i64 (i:Nat)) ?_ t.length _ _ ⟨0,by omega,rfl,by simp,by simp only [go_sem,AD,AA,AC,AB,KB_n,KB_x,Nat.reduceBEq,Nat.reduceAdd,Nat.reduceLT,Nat.reduceLeDiff,Nat.reduceEqDiff,reduceIte,Int.reduceEq,reduceCtorEq],by simp only [go_sem,AD,AA,AC,AB,KB_n,KB_x,Nat.reduceBEq,Nat.reduceAdd,Nat.reduceLT,Nat.reduceLeDiff,Nat.reduceEqDiff,reduceIte,Int.reduceEq,reduceCtorEq]; rfl⟩
 rintro x e q ⟨i,hi,rfl,hn,g0,g3⟩
 by_cases h:i < t.length
 · have e1:((i:Int) < (t.length:Int))=True:=eq_true (by omega)
   have hw1:=Ap (show i+1 < 2^63 by omega)
   have hc:t[i]? = some t[i]:=List.getElem?_eq_getElem h
   have htk:t.take (i+1)=t.take i++[t[i]]:=by rw [List.take_add_one,hc]; rfl
   by_cases h0:t[i]=0
   · have e2:((t[i]:Int)=0)=True:=by simp [h0]
     simp only [go_sem,AD,AA,AC,AB,KB_n,KB_x,Nat.reduceBEq,Nat.reduceAdd,Nat.reduceLT,Nat.reduceLeDiff,Nat.reduceEqDiff,reduceIte,Int.reduceEq,reduceCtorEq,g0,g3,e1,AJ,hw1,hc,e2]
     refine AQ (Over.enter s) rfl ?_
     have:OO t=false:=by
      have:t.contains 0=true:=by rw [List.contains_iff_mem,← h0]; exact List.getElem_mem h
      rw [OO,this]; simp
     rw [this]; rfl
   · have e2:((t[i]:Int)=0)=False:=eq_false (by omega)
     simp only [go_sem,AD,AA,AC,AB,KB_n,KB_x,Nat.reduceBEq,Nat.reduceAdd,Nat.reduceLT,Nat.reduceLeDiff,Nat.reduceEqDiff,reduceIte,Int.reduceEq,reduceCtorEq,g0,g3,e1,AJ,hw1,hc,e2]
     refine ⟨x - 1,by omega,i+1,by omega,?_,rfl⟩
     have hb:(0==t[i])=false:=by simp only [beq_eq_false_iff_ne,ne_eq]; omega
     rw [htk]
     simp only [List.contains_append,hn,List.contains_cons,List.contains_nil,hb,Bool.or_self]
 · have e1:((i:Int) < (t.length:Int))=False:=eq_false (by omega)
   have e2:((t.length:Int)≤256)=(t.length≤256):=by simp only [eq_iff_iff]; omega
   rw [List.take_of_length_le (by omega)] at hn
   simp only [go_sem,AD,AA,AC,AB,KB_n,KB_x,Nat.reduceBEq,Nat.reduceAdd,Nat.reduceLT,Nat.reduceLeDiff,Nat.reduceEqDiff,reduceIte,Int.reduceEq,reduceCtorEq,g0,g3,e1,e2]
   refine AQ (Over.enter s) rfl ?_
   simp only [OO,hn,Bt,wkZ,wk,Bool.not_false,Bool.and_true]
def W1 (n:ND):Bool:=decide (n.names.length=0)&&(decide (n.kids.length=0)&&(OO n.text&&(decide (n.kind=1)||decide (0 < n.text.length))))
theorem W1_eq (n:ND):(decide (n.names=[])&&(decide (n.kids.length=0)&&(decide (n.text.length≤256)&&(!n.text.contains 0&&(decide (n.kind=1)||decide (n.text≠[]))))))=W1 n:=by
 have h1:decide (n.names=[])=decide (n.names.length=0):=by simp
 have h2:decide (n.text≠[])=decide (0 < n.text.length):=by simp [List.length_pos_iff]
 unfold W1 OO
 rw [h1,h2,Bool.and_assoc]
theorem PN : ∀ n : ND,n.Ok→∀ s,Wf s→(lim prog).call CS [.agg n.cells] s=some (.b (CH n),s):=by
 refine ND.ind fun n ih ho s hw=>?_
 refine fn_W Gn rfl rfl ?_
 have H1:=(Hp.begin hw).new (.cells 47 n.cells)
 generalize hq:s.enter.new (.cells 47 n.cells)=q at H1
 generalize hm:s.enter.nb=m at H1
 have l0:=H1.ld 0 (off:=0) (v:=.i .u8 (n.kind:Nat)) rfl rfl
 have l1:=H1.ld 0 (off:=1) (v:=.s n.text) rfl rfl
 have l2:=H1.ld 0 (off:=2) (v:=tx n.names) rfl rfl
 have l3:=H1.ld 0 (off:=3) (v:=.ws false 4 (n.kids.map ND.av)) rfl rfl
 have hz0:wkZ AP.cin [.agg n.cells]=[.agg n.cells]:=by simp [AP,wkZ,wk,ND.cells]
 have ht:=PM n.text ho.text.2 q
 rw [hz0,Ey,W1_eq]
 have hbr:∀ b,KR s [.id] (.b b) (some ([.b b],q)):=fun b=>AQ H1.over rfl rfl
 by_cases c1:n.kind=1∨n.kind=3
 · rw [if_pos c1]
   by_cases k1:n.kind=1
   · have e1:((n.kind:Int)=1)=True:=eq_true (by omega)
     by_cases d1:n.names.length=0
     · have f1:((n.names.length:Int)=0)=True:=eq_true (by omega)
       by_cases d2:n.kids.length=0
       · have f2:((n.kids.length:Int)=0)=True:=eq_true (by omega)
         cases d3:OO n.text
         · rw [d3] at ht
           simp only [AP,go_sem,AD,AA,AC,AB,KB_n,KB_x,Nat.reduceBEq,Nat.reduceAdd,Nat.reduceLT,Nat.reduceLeDiff,Nat.reduceEqDiff,reduceIte,Int.reduceEq,reduceCtorEq,Af,hq,hm,l0,l1,l2,l3,Nat.zero_add,List.length_map,ht,e1,f1,f2]
           rw [show W1 n=false by simp [W1,d3]]
           exact hbr _
         · rw [d3] at ht
           simp only [AP,go_sem,AD,AA,AC,AB,KB_n,KB_x,Nat.reduceBEq,Nat.reduceAdd,Nat.reduceLT,Nat.reduceLeDiff,Nat.reduceEqDiff,reduceIte,Int.reduceEq,reduceCtorEq,Af,hq,hm,l0,l1,l2,l3,Nat.zero_add,List.length_map,ht,e1,f1,f2]
           rw [show W1 n=true by simp [W1,d1,d2,d3,k1]]
           exact hbr _
       · have f2:((n.kids.length:Int)=0)=False:=eq_false (by omega)
         simp only [AP,go_sem,AD,AA,AC,AB,KB_n,KB_x,Nat.reduceBEq,Nat.reduceAdd,Nat.reduceLT,Nat.reduceLeDiff,Nat.reduceEqDiff,reduceIte,Int.reduceEq,reduceCtorEq,Af,hq,hm,l0,l1,l2,l3,Nat.zero_add,List.length_map,ht,e1,f1,f2]
         rw [show W1 n=false by simp [W1,d2]]
         exact hbr _
     · have f1:((n.names.length:Int)=0)=False:=eq_false (by omega)
       simp only [AP,go_sem,AD,AA,AC,AB,KB_n,KB_x,Nat.reduceBEq,Nat.reduceAdd,Nat.reduceLT,Nat.reduceLeDiff,Nat.reduceEqDiff,reduceIte,Int.reduceEq,reduceCtorEq,Af,hq,hm,l0,l1,l2,l3,Nat.zero_add,List.length_map,ht,e1,f1]
       rw [show W1 n=false by simp [W1,d1]]
       exact hbr _
   · have e1 : ((n.kind:Int)=1)=False:=eq_false (by omega)
     have e3:((n.kind:Int)=3)=True:=eq_true (by omega)
     by_cases d1:n.names.length=0
     · have f1:((n.names.length:Int)=0)=True:=eq_true (by omega)
       by_cases d2:n.kids.length=0
       · have f2:((n.kids.length:Int)=0)=True:=eq_true (by omega)
         cases d3:OO n.text
         · rw [d3] at ht
           simp only [AP,go_sem,AD,AA,AC,AB,KB_n,KB_x,Nat.reduceBEq,Nat.reduceAdd,Nat.reduceLT,Nat.reduceLeDiff,Nat.reduceEqDiff,reduceIte,Int.reduceEq,reduceCtorEq,Af,hq,hm,l0,l1,l2,l3,Nat.zero_add,List.length_map,ht,e1,e3,f1,f2]
           rw [show W1 n=false by simp [W1,d3]]
           exact hbr _
         · rw [d3] at ht
           by_cases d4:0 < n.text.length
           · have f4:((0:Int) < (n.text.length:Int))=True:=eq_true (by omega)
             simp only [AP,go_sem,AD,AA,AC,AB,KB_n,KB_x,Nat.reduceBEq,Nat.reduceAdd,Nat.reduceLT,Nat.reduceLeDiff,Nat.reduceEqDiff,reduceIte,Int.reduceEq,reduceCtorEq,Af,hq,hm,l0,l1,l2,l3,Nat.zero_add,List.length_map,ht,e1,e3,f1,f2,f4]
             rw [show W1 n=true by simp [W1,d1,d2,d3,d4,k1]]
             exact hbr _
           · have f4:((0:Int) < (n.text.length:Int))=False:=eq_false (by omega)
             simp only [AP,go_sem,AD,AA,AC,AB,KB_n,KB_x,Nat.reduceBEq,Nat.reduceAdd,Nat.reduceLT,Nat.reduceLeDiff,Nat.reduceEqDiff,reduceIte,Int.reduceEq,reduceCtorEq,Af,hq,hm,l0,l1,l2,l3,Nat.zero_add,List.length_map,ht,e1,e3,f1,f2,f4]
             rw [show W1 n=false by simp [W1,d1,d2,d3,d4,k1]]
             exact hbr _
       · have f2:((n.kids.length:Int)=0)=False:=eq_false (by omega)
         simp only [AP,go_sem,AD,AA,AC,AB,KB_n,KB_x,Nat.reduceBEq,Nat.reduceAdd,Nat.reduceLT,Nat.reduceLeDiff,Nat.reduceEqDiff,reduceIte,Int.reduceEq,reduceCtorEq,Af,hq,hm,l0,l1,l2,l3,Nat.zero_add,List.length_map,ht,e1,e3,f1,f2]
         rw [show W1 n=false by simp [W1,d2]]
         exact hbr _
     · have f1:((n.names.length:Int)=0)=False:=eq_false (by omega)
       simp only [AP,go_sem,AD,AA,AC,AB,KB_n,KB_x,Nat.reduceBEq,Nat.reduceAdd,Nat.reduceLT,Nat.reduceLeDiff,Nat.reduceEqDiff,reduceIte,Int.reduceEq,reduceCtorEq,Af,hq,hm,l0,l1,l2,l3,Nat.zero_add,List.length_map,ht,e1,e3,f1]
       rw [show W1 n=false by simp [W1,d1]]
       exact hbr _
 · rw [if_neg c1]
   have e1:((n.kind:Int)=1)=False:=eq_false (by omega)
   have e3:((n.kind:Int)=3)=False:=eq_false (by omega)
   by_cases c2:n.kind=2
   · rw [if_pos c2]
     have e2:((n.kind:Int)≠2)=False:=by simp [c2]
     by_cases d1:n.text=[]
     · have f1 : (n.text≠[])=False:=by simp [d1]
       by_cases d2:n.names.length=n.kids.length
       · have f2 : ((n.names.length:Int)≠(n.kids.length:Int))=False:=by simp only [ne_eq,eq_iff_iff,iff_false]; omega
         rw [decide_eq_true d1,decide_eq_true d2]
         simp only [AP,go_sem,AD,AA,AC,AB,KB_n,KB_x,Nat.reduceBEq,Nat.reduceAdd,Nat.reduceLT,Nat.reduceLeDiff,Nat.reduceEqDiff,reduceIte,Int.reduceEq,reduceCtorEq,Af,hq,hm,l0,l1,l2,l3,Nat.zero_add,List.length_map,ht,e1,e2,e3,f1,f2]
         refine Bv (fun x e q'=>∃ i:Nat,i+x=n.names.length∧q'=q∧DE none (n.names.take i) (n.kids.take i)=true∧e.get 1=.p m 0∧e.get 3=.i .i64 (i:Nat)) ?_ n.names.length _ _ ⟨0,by omega,rfl,by simp [DE],by simp only [go_sem,AD,AA,AC,AB,KB_n,KB_x,Nat.reduceBEq,Nat.reduceAdd,Nat.reduceLT,Nat.reduceLeDiff,Nat.reduceEqDiff,reduceIte,Int.reduceEq,reduceCtorEq],by simp only [go_sem,AD,AA,AC,AB,KB_n,KB_x,Nat.reduceBEq,Nat.reduceAdd,Nat.reduceLT,Nat.reduceLeDiff,Nat.reduceEqDiff,reduceIte,Int.reduceEq,reduceCtorEq]; rfl⟩
         rintro x e q' ⟨i,hi,rfl,hwl,g1,g3⟩
         have hnl:=ho.names.2
         by_cases h:i < n.names.length
         · have h1:((i:Int) < (n.names.length:Int))=True:=eq_true (by omega)
           obtain ⟨y,hy⟩:∃ y,n.names[i]? = some y:=⟨_,List.getElem?_eq_getElem h⟩
           obtain ⟨k,hk⟩:∃ k,n.kids[i]? = some k:=⟨_,List.getElem?_eq_getElem (by omega)⟩
           have hy2:(n.names.map AV.s)[i]? = some (.s y):=by rw [List.getElem?_map,hy]; rfl
           have hk2:=ER hk
           have hkm:k∈n.kids:=List.mem_of_getElem? hk
           have hym:y∈n.names:=List.mem_of_getElem? hy
           have hnm:=RR y (ho.names.1 y hym).len q'
           have hkc:=ih k hkm (ho.kids.1 k hkm) q' H1.wf
           have hld:ldA q' true 4 (.ep k.cells 0 .shut)=some (.agg k.cells):=rfl
           have hw1:=Ap (show i+1 < 2^63 by omega)
           have htk:n.names.take (i+1)=n.names.take i++[y]:=by rw [List.take_add_one,hy]; rfl
           have htk2:n.kids.take (i+1)=n.kids.take i++[k]:=by rw [List.take_add_one,hk]; rfl
           have hsn:=JY none (n.names.take i) (n.kids.take i) y k (by rw [List.length_take,List.length_take]; omega)
           rw [← htk,← htk2,hwl,Bool.true_and] at hsn
           have hno:DE none (n.names.take (i+1)) (n.kids.take (i+1))=false→DE none n.names n.kids=false:=fun hf=>by
            rw [Bool.eq_false_iff]
            intro ht
            rw [JZ n none n.names n.kids (i+1) ht] at hf
            cases hf
           cases hn1:ES y with
           | false =>
             rw [hn1] at hnm hsn
             rw [hno hsn]
             simp only [go_sem,AD,AA,AC,AB,KB_n,KB_x,Nat.reduceBEq,Nat.reduceAdd,Nat.reduceLT,Nat.reduceLeDiff,Nat.reduceEqDiff,reduceIte,Int.reduceEq,reduceCtorEq,g1,g3,l2,List.length_map,h1,AJ,hy2,BZ,C7,hnm,Nat.zero_add]
             exact hbr _
           | true =>
           rw [hn1] at hnm hsn
           cases i with
           | zero =>
             have h2:((0:Int) < ((0:Nat):Int))=False:=by simp
             have hsn:DE none (n.names.take (0+1)) (n.kids.take (0+1))=CH k:=by rw [hsn]; simp
             cases hwk:CH k with
             | false =>
               rw [hwk] at hkc hsn
               rw [hno hsn]
               simp only [go_sem,AD,AA,AC,AB,KB_n,KB_x,Nat.reduceBEq,Nat.reduceAdd,Nat.reduceLT,Nat.reduceLeDiff,Nat.reduceEqDiff,reduceIte,Int.reduceEq,reduceCtorEq,g1,g3,l2,List.length_map,h1,AJ,hy2,BZ,C7,hnm,h2,l3,hk2,hld,AR,hkc,Nat.zero_add]
               exact ⟨rfl,hbr _⟩
             | true =>
               rw [hwk] at hkc hsn
               simp only [go_sem,AD,AA,AC,AB,KB_n,KB_x,Nat.reduceBEq,Nat.reduceAdd,Nat.reduceLT,Nat.reduceLeDiff,Nat.reduceEqDiff,reduceIte,Int.reduceEq,reduceCtorEq,g1,g3,l2,List.length_map,h1,AJ,hy2,BZ,C7,hnm,h2,l3,hk2,hld,AR,hkc,hw1,Nat.zero_add]
               exact ⟨rfl,x - 1,by omega,0+1,by omega,hsn,by first | trivial | rfl⟩
           | succ i =>
             have h2:((0:Int) < ((i+1:Nat):Int))=True:=eq_true (by omega)
             obtain ⟨z,hz⟩:∃ z,n.names[i]? = some z:=⟨_,List.getElem?_eq_getElem (by omega)⟩
             have hz2:(n.names.map AV.s)[i]? = some (.s z):=by rw [List.getElem?_map,hz]; rfl
             have hsb:IntKind.i64.wrap (((i+1:Nat):Int) - 1)=(i:Int):=by
              rw [show ((i+1:Nat):Int) - 1=(i:Int) by omega]; exact CX (by omega)
             rw [Jw hz] at hsn
             have hsn:DE none (n.names.take (i+1+1)) (n.kids.take (i+1+1))=(ltN z y&&CH k):=by rw [hsn]; simp
             have hle:(ltN y z||beqN y z)=!ltN z y:=Is y z
             cases hzy:ltN z y with
             | false =>
               rw [hzy] at hle hsn
               rw [hno hsn]
               simp only [go_sem,AD,AA,AC,AB,KB_n,KB_x,Nat.reduceBEq,Nat.reduceAdd,Nat.reduceLT,Nat.reduceLeDiff,Nat.reduceEqDiff,reduceIte,Int.reduceEq,reduceCtorEq,g1,g3,List.length_map,h1,AJ,hy2,BZ,C7,hnm,h2,l2,hsb,hz2,Jv,hle,Nat.zero_add]
               exact hbr _
             | true =>
               rw [hzy] at hle hsn
               cases hwk:CH k with
               | false =>
                 rw [hwk] at hkc hsn
                 rw [hno hsn]
                 simp only [go_sem,AD,AA,AC,AB,KB_n,KB_x,Nat.reduceBEq,Nat.reduceAdd,Nat.reduceLT,Nat.reduceLeDiff,Nat.reduceEqDiff,reduceIte,Int.reduceEq,reduceCtorEq,g1,g3,List.length_map,h1,AJ,hy2,BZ,C7,hnm,h2,l2,hsb,hz2,Jv,hle,l3,hk2,hld,AR,hkc,Nat.zero_add]
                 exact ⟨rfl,hbr _⟩
               | true =>
                 rw [hwk] at hkc hsn
                 simp only [go_sem,AD,AA,AC,AB,KB_n,KB_x,Nat.reduceBEq,Nat.reduceAdd,Nat.reduceLT,Nat.reduceLeDiff,Nat.reduceEqDiff,reduceIte,Int.reduceEq,reduceCtorEq,g1,g3,List.length_map,h1,AJ,hy2,BZ,C7,hnm,h2,l2,hsb,hz2,Jv,hle,l3,hk2,hld,AR,hkc,hw1,Nat.zero_add]
                 exact ⟨rfl,x - 1,by omega,i+1+1,by omega,hsn,by first | trivial | rfl⟩
         · have h1:((i:Int) < (n.names.length:Int))=False:=eq_false (by omega)
           rw [List.take_of_length_le (by omega),List.take_of_length_le (by omega)] at hwl
           rw [hwl]
           simp only [go_sem,AD,AA,AC,AB,KB_n,KB_x,Nat.reduceBEq,Nat.reduceAdd,Nat.reduceLT,Nat.reduceLeDiff,Nat.reduceEqDiff,reduceIte,Int.reduceEq,reduceCtorEq,g1,g3,l2,List.length_map,h1,Nat.zero_add]
           exact hbr _
       · have f2:((n.names.length:Int)≠(n.kids.length:Int))=True:=by simp only [ne_eq,eq_iff_iff,iff_true]; omega
         rw [decide_eq_true d1,decide_eq_false d2]
         simp only [AP,go_sem,AD,AA,AC,AB,KB_n,KB_x,Nat.reduceBEq,Nat.reduceAdd,Nat.reduceLT,Nat.reduceLeDiff,Nat.reduceEqDiff,reduceIte,Int.reduceEq,reduceCtorEq,Af,hq,hm,l0,l1,l2,l3,Nat.zero_add,List.length_map,ht,e1,e2,e3,f1,f2]
         exact hbr _
     · have f1:(n.text≠[])=True:=by simp [d1]
       rw [decide_eq_false d1]
       simp only [AP,go_sem,AD,AA,AC,AB,KB_n,KB_x,Nat.reduceBEq,Nat.reduceAdd,Nat.reduceLT,Nat.reduceLeDiff,Nat.reduceEqDiff,reduceIte,Int.reduceEq,reduceCtorEq,Af,hq,hm,l0,l1,l2,l3,Nat.zero_add,List.length_map,ht,e1,e2,e3,f1]
       exact hbr _
   · rw [if_neg c2]
     have e2:((n.kind:Int)≠2)=True:=by simp only [ne_eq,eq_iff_iff,iff_true]; omega
     simp only [AP,go_sem,AD,AA,AC,AB,KB_n,KB_x,Nat.reduceBEq,Nat.reduceAdd,Nat.reduceLT,Nat.reduceLeDiff,Nat.reduceEqDiff,reduceIte,Int.reduceEq,reduceCtorEq,Af,hq,hm,l0,l1,l2,l3,Nat.zero_add,List.length_map,ht,e1,e2,e3]
     exact hbr _
theorem OP:∀ n:ND,n.Ok→nodesN n < 2^62→∀ s,Wf s→(lim prog).call B9 [.agg n.cells] s=some (.i .i64 (nodesN n:Nat),s):=by
 refine ND.ind fun n ih ho hb s hw=>?_
 refine fn_W GZ rfl rfl ?_
 have H1:=(Hp.begin hw).new (.cells 47 n.cells)
 generalize hq:s.enter.new (.cells 47 n.cells)=q at H1
 generalize hm:s.enter.nb=m at H1
 have l3:=H1.ld 0 (off:=3) (v:=.ws false 4 (n.kids.map ND.av)) rfl rfl
 have hN:=Bz n
 have hkl:=ho.kids.2
 have hz0:wkZ BM.cin [.agg n.cells]=[.agg n.cells]:=by simp [BM,wkZ,wk,ND.cells]
 rw [hz0]
 simp only [BM,go_sem,AD,AA,AC,AB,KB_n,KB_x,Nat.reduceBEq,Nat.reduceAdd,Nat.reduceLT,Nat.reduceLeDiff,Nat.reduceEqDiff,reduceIte,Int.reduceEq,reduceCtorEq,Af,hq,hm]
 refine Bv (fun x e q'=>∃ i:Nat,i+x=n.kids.length∧q'=q∧e.get 1=.p m 0∧e.get 3=.i .i64 ((1+((n.kids.take i).map nodesN).sum:Nat):Int)∧e.get 4=.i .i64 (i:Nat)) ?_ n.kids.length _ _ ⟨0,by omega,rfl,by simp only [go_sem,AD,AA,AC,AB,KB_n,KB_x,Nat.reduceBEq,Nat.reduceAdd,Nat.reduceLT,Nat.reduceLeDiff,Nat.reduceEqDiff,reduceIte,Int.reduceEq,reduceCtorEq],by simp only [go_sem,AD,AA,AC,AB,KB_n,KB_x,Nat.reduceBEq,Nat.reduceAdd,Nat.reduceLT,Nat.reduceLeDiff,Nat.reduceEqDiff,reduceIte,Int.reduceEq,reduceCtorEq]; rfl,by simp only [go_sem,AD,AA,AC,AB,KB_n,KB_x,Nat.reduceBEq,Nat.reduceAdd,Nat.reduceLT,Nat.reduceLeDiff,Nat.reduceEqDiff,reduceIte,Int.reduceEq,reduceCtorEq]; rfl⟩
 rintro x e q' ⟨i,hi,rfl,g1,g3,g4⟩
 by_cases h:i < n.kids.length
 · have e1:((i:Int) < (n.kids.length:Int))=True:=eq_true (by omega)
   obtain ⟨k,hk1⟩:∃ k,n.kids[i]? = some k:=⟨_,List.getElem?_eq_getElem h⟩
   have hmem:k∈n.kids:=List.mem_of_getElem? hk1
   have hget:=ER hk1
   have hle:=E8 (f:=nodesN) hmem
   have hts:=Ew nodesN hk1
   have htl:=EQ nodesN n.kids (i+1)
   have hc:=ih k hmem (ho.kids.1 k hmem) (by omega) q' H1.wf
   have hsum:IntKind.i64.wrap (((1+((n.kids.take i).map nodesN).sum:Nat):Int)+((nodesN k:Nat):Int))=((1+((n.kids.take (i+1)).map nodesN).sum:Nat):Int):=by
    rw [hts,show ((1+((n.kids.take i).map nodesN).sum:Nat):Int)+((nodesN k:Nat):Int)=((1+(((n.kids.take i).map nodesN).sum+nodesN k):Nat):Int) by omega]
    exact CX (by omega)
   have hw1:=Ap (show i+1 < 2^63 by omega)
   have hld:ldA q' true 4 (.ep k.cells 0 .shut)=some (.agg k.cells):=rfl
   simp only [go_sem,AD,AA,AC,AB,KB_n,KB_x,Nat.reduceBEq,Nat.reduceAdd,Nat.reduceLT,Nat.reduceLeDiff,Nat.reduceEqDiff,reduceIte,Int.reduceEq,reduceCtorEq,g1,g3,g4,l3,List.length_map,e1,AJ,hget,hld,AR,hc,hsum,hw1,Nat.zero_add]
   exact ⟨x - 1,by omega,i+1,by omega,rfl,rfl⟩
 · have e1:((i:Int) < (n.kids.length:Int))=False:=eq_false (by omega)
   obtain rfl:i=n.kids.length:=by omega
   simp only [go_sem,AD,AA,AC,AB,KB_n,KB_x,Nat.reduceBEq,Nat.reduceAdd,Nat.reduceLT,Nat.reduceLeDiff,Nat.reduceEqDiff,reduceIte,Int.reduceEq,reduceCtorEq,g1,g3,g4,l3,List.length_map,e1,Nat.zero_add]
   refine AQ H1.over rfl ?_
   rw [hN,List.take_length]; rfl
theorem PO:∀ n:ND,n.Ok→nodesN n < 2^62→∀ s,Wf s→(lim prog).call CU [.agg n.cells] s=some (.i .i64 (deepN n:Nat),s):=by
 refine ND.ind fun n ih ho hb s hw=>?_
 refine fn_W Gp rfl rfl ?_
 have H1:=(Hp.begin hw).new (.cells 47 n.cells)
 generalize hq:s.enter.new (.cells 47 n.cells)=q at H1
 generalize hm:s.enter.nb=m at H1
 have l3:=H1.ld 0 (off:=3) (v:=.ws false 4 (n.kids.map ND.av)) rfl rfl
 have hN:=Bz n
 have hkl:=ho.kids.2
 have hz0:wkZ BP.cin [.agg n.cells]=[.agg n.cells]:=by simp [BP,wkZ,wk,ND.cells]
 rw [hz0]
 simp only [BP,go_sem,AD,AA,AC,AB,KB_n,KB_x,Nat.reduceBEq,Nat.reduceAdd,Nat.reduceLT,Nat.reduceLeDiff,Nat.reduceEqDiff,reduceIte,Int.reduceEq,reduceCtorEq,Af,hq,hm]
 refine Bv (fun x e q'=>∃ i:Nat,i+x=n.kids.length∧q'=q∧e.get 1=.p m 0∧e.get 3=.i .i64 ((((n.kids.take i).map fun k=>1+deepN k).foldr max 0:Nat):Int)∧e.get 4=.i .i64 (i:Nat)) ?_ n.kids.length _ _ ⟨0,by omega,rfl,by simp only [go_sem,AD,AA,AC,AB,KB_n,KB_x,Nat.reduceBEq,Nat.reduceAdd,Nat.reduceLT,Nat.reduceLeDiff,Nat.reduceEqDiff,reduceIte,Int.reduceEq,reduceCtorEq],by simp only [go_sem,AD,AA,AC,AB,KB_n,KB_x,Nat.reduceBEq,Nat.reduceAdd,Nat.reduceLT,Nat.reduceLeDiff,Nat.reduceEqDiff,reduceIte,Int.reduceEq,reduceCtorEq]; rfl,by simp only [go_sem,AD,AA,AC,AB,KB_n,KB_x,Nat.reduceBEq,Nat.reduceAdd,Nat.reduceLT,Nat.reduceLeDiff,Nat.reduceEqDiff,reduceIte,Int.reduceEq,reduceCtorEq]; rfl⟩
 rintro x e q' ⟨i,hi,rfl,g1,g3,g4⟩
 by_cases h:i < n.kids.length
 · have e1:((i:Int) < (n.kids.length:Int))=True:=eq_true (by omega)
   obtain ⟨k,hk1⟩:∃ k,n.kids[i]? = some k:=⟨_,List.getElem?_eq_getElem h⟩
   have hmem:k∈n.kids:=List.mem_of_getElem? hk1
   have hget:=ER hk1
   have hle:=E8 (f:=nodesN) hmem
   have hdn:=L9 k
   have hmt:=QX (fun k=>1+deepN k) hk1
   have hc:=ih k hmem (ho.kids.1 k hmem) (by omega) q' H1.wf
   have hsum:IntKind.i64.wrap (((deepN k:Nat):Int)+1)=((1+deepN k:Nat):Int):=by
    rw [show ((deepN k:Nat):Int)+1=((1+deepN k:Nat):Int) by omega]
    exact CX (by omega)
   have hmx:(if ((1+deepN k:Nat):Int) > ((((n.kids.take i).map fun k=>1+deepN k).foldr max 0:Nat):Int) then ((1+deepN k:Nat):Int) else ((((n.kids.take i).map fun k=>1+deepN k).foldr max 0:Nat):Int))=((((n.kids.take (i+1)).map fun k=>1+deepN k).foldr max 0:Nat):Int):=by
    rw [hmt]
    split<;>omega
   have hw1:=Ap (show i+1 < 2^63 by omega)
   have hld:ldA q' true 4 (.ep k.cells 0 .shut)=some (.agg k.cells):=rfl
   simp only [go_sem,AD,AA,AC,AB,KB_n,KB_x,Nat.reduceBEq,Nat.reduceAdd,Nat.reduceLT,Nat.reduceLeDiff,Nat.reduceEqDiff,reduceIte,Int.reduceEq,reduceCtorEq,g1,g3,g4,l3,List.length_map,e1,AJ,hget,hld,AR,hc,hsum,hmx,hw1,Nat.zero_add]
   exact ⟨x - 1,by omega,i+1,by omega,rfl,rfl⟩
 · have e1:((i:Int) < (n.kids.length:Int))=False:=eq_false (by omega)
   obtain rfl:i=n.kids.length:=by omega
   simp only [go_sem,AD,AA,AC,AB,KB_n,KB_x,Nat.reduceBEq,Nat.reduceAdd,Nat.reduceLT,Nat.reduceLeDiff,Nat.reduceEqDiff,reduceIte,Int.reduceEq,reduceCtorEq,g1,g3,g4,l3,List.length_map,e1,Nat.zero_add]
   refine AQ H1.over rfl ?_
   rw [Ir,List.take_length]; rfl
theorem RQ (n:ND) (ho:n.Ok) (hb:nodesN n < 2^62) (s:St) (hw:Wf s):(lim prog).call Ae [.agg n.cells] s=some (.b (mayN n),s):=by
 refine fn_W Ee rfl rfl ?_
 have H1:=(Hp.begin hw).new (.cells 47 n.cells)
 generalize hq:s.enter.new (.cells 47 n.cells)=q at H1
 generalize hm:s.enter.nb=m at H1
 have l0:=H1.ld 0 (off:=0) (v:=.i .u8 (n.kind:Nat)) rfl rfl
 have lw:=H1.ldw 0 (m:=4) rfl rfl
 have h1:=PN n ho q H1.wf
 have h2:=OP n ho hb q H1.wf
 have h3:=PO n ho hb q H1.wf
 have hbr:∀ b,KR s [.id] (.b b) (some ([.b b],q)):=fun b=>AQ H1.over rfl rfl
 have hz0:wkZ Aw.cin [.agg n.cells]=[.agg n.cells]:=by simp [Aw,wkZ,wk,ND.cells]
 rw [hz0]
 unfold mayN
 have e4:((deepN n:Int)≤24)=(deepN n≤24):=by simp only [eq_iff_iff]; omega
 by_cases c1:n.kind=2
 · have e1:((n.kind:Int)=2)=True:=eq_true (by omega)
   rw [decide_eq_true c1]
   cases c2:CH n with
   | false =>
     rw [c2] at h1
     simp only [Aw,go_sem,AD,AA,AC,AB,KB_n,KB_x,Nat.reduceBEq,Nat.reduceAdd,Nat.reduceLT,Nat.reduceLeDiff,Nat.reduceEqDiff,reduceIte,Int.reduceEq,reduceCtorEq,Af,hq,hm,l0,lw,AR,Nat.zero_add,e1,h1]
     exact hbr _
   | true =>
     rw [c2] at h1
     by_cases c3:nodesN n≤1024
     · have e3:((nodesN n:Int)≤1024)=True:=eq_true (by omega)
       rw [decide_eq_true c3]
       simp only [Aw,go_sem,AD,AA,AC,AB,KB_n,KB_x,Nat.reduceBEq,Nat.reduceAdd,Nat.reduceLT,Nat.reduceLeDiff,Nat.reduceEqDiff,reduceIte,Int.reduceEq,reduceCtorEq,Af,hq,hm,l0,lw,AR,Nat.zero_add,e1,h1,h2,h3,e3,e4]
       exact hbr _
     · have e3:((nodesN n:Int)≤1024)=False:=eq_false (by omega)
       rw [decide_eq_false c3]
       simp only [Aw,go_sem,AD,AA,AC,AB,KB_n,KB_x,Nat.reduceBEq,Nat.reduceAdd,Nat.reduceLT,Nat.reduceLeDiff,Nat.reduceEqDiff,reduceIte,Int.reduceEq,reduceCtorEq,Af,hq,hm,l0,lw,AR,Nat.zero_add,e1,h1,h2,h3,e3]
       exact hbr _
 · have e1:((n.kind:Int)=2)=False:=eq_false (by omega)
   rw [decide_eq_false c1]
   simp only [Aw,go_sem,AD,AA,AC,AB,KB_n,KB_x,Nat.reduceBEq,Nat.reduceAdd,Nat.reduceLT,Nat.reduceLeDiff,Nat.reduceEqDiff,reduceIte,Int.reduceEq,reduceCtorEq,Af,hq,hm,l0,Nat.zero_add,e1]
   exact hbr _
end Go.Proofs.Ytgloinighjdhlaa

namespace Go.Proofs.Ytgloinighjdhlaa
open Go.Proofs.Ytgloinighjdhlaa.Am

attribute [local irreducible] W WO WE WQ WD Tr.get Tr.set
theorem wkFN (l:List FT) (root:ND):wkZ [(.sl 6 (.agg [.id,.id,(.sl 1 .id),(.sl 1 .id),.id,.id])),ctN] [fx l,.agg root.cells]=[fx l,.agg root.cells]:=by
 simp only [wkZ,IA .ws,wk]
 simp [ND.cells,wkZ,wk,fx]
def C6 (l:List FT) (root:ND):Bool:=decide ((El l root).2=0)&&decide ((El l root).1 < 0)
theorem holds_ok (l:List FT) (ho:FOk l) (root:ND) (hr:root.Ok) (hb:nodesN root < 2^62) (s:St) (hw:Wf s) :
    (lim prog).call BG [fx l,.agg root.cells] s=some (.b (C6 l root),s):=by
 refine fn_W Im rfl rfl ?_
 have hz0:wkZ CB.cin [fx l,.agg root.cells]=[fx l,.agg root.cells]:=wkFN l root
 rw [hz0]
 have e0:s.enter.nb=s.nb:=rfl
 have H1:=(Hp.begin hw).new (.cells 47 root.cells)
 obtain ⟨q1,hq1⟩:∃ q1,s.enter.new (.cells 47 root.cells)=q1:=⟨_,rfl⟩
 rw [hq1,e0] at H1
 have lw:=H1.ldw (m:=4) 0 rfl rfl
 have hf:=Vj l ho root hr hb q1 H1.wf
 unfold fx at hf
 unfold C6
 by_cases hz:(El l root).2=0
 · have e1:((El l root).2=0)=True:=by simp [hz]
   simp only [CB,go_sem,AD,AA,AC,AB,KB_n,KB_x,Nat.reduceBEq,Nat.reduceAdd,Nat.reduceLT,Nat.reduceLeDiff,Nat.reduceEqDiff,reduceIte,Int.reduceEq,reduceCtorEq,Af,hq1,e0,fx,lw,AR,hf,e1]
   exact AQ H1.over rfl (by simp [Bt,wkZ,wk])
 · have e1:((El l root).2=0)=False:=by simp [hz]
   simp only [CB,go_sem,AD,AA,AC,AB,KB_n,KB_x,Nat.reduceBEq,Nat.reduceAdd,Nat.reduceLT,Nat.reduceLeDiff,Nat.reduceEqDiff,reduceIte,Int.reduceEq,reduceCtorEq,Af,hq1,e0,fx,lw,AR,hf,e1]
   exact AQ H1.over rfl (by simp [Bt,wkZ,wk])
end Go.Proofs.Ytgloinighjdhlaa

namespace Go.Proofs.Ytgloinighjdhlaa
open Go.Proofs.Ytgloinighjdhlaa.Am
def posS:List ND→Nat→List Int
 | [],_=>[]
 | k::ks,n=>(n:Int)::posS ks (n+nodesN k)
def HK (x:ND) (n:Nat):FT:=⟨true,x.kind,x.names,posS x.kids (n+1),if x.kind=2 then 1 else 0,0⟩
mutual
def allF:ND→Nat→List FT
 | .mk k t ns ks,n=>⟨true,k,ns,posS ks (n+1),if k=2 then 1 else 0,0⟩::DR ks (n+1)
def DR:List ND→Nat→List FT
 | [],_=>[]
 | k::ks,n=>allF k n++DR ks (n+nodesN k)
end
theorem HL (x:ND) (n:Nat):allF x n=HK x n::DR x.kids (n+1):=by
 cases x with
 | mk k t ns ks=>rw [allF]; rfl
theorem Je:∀ (ks:List ND),(∀ k∈ks,∀ n,(allF k n).length=nodesN k)→∀ n,(DR ks n).length=(ks.map nodesN).sum
 | [],_,n=>by simp [DR]
 | k::ks,h,n=>by
   rw [DR,List.length_append,h k (by simp),Je ks (fun x hx=>h x (by simp [hx])),List.map_cons,List.sum_cons]
theorem Ez:∀ (x:ND) (n:Nat),(allF x n).length=nodesN x:=by
 refine ND.ind fun x ih n=>?_
 rw [HL,List.length_cons,Je x.kids ih,Bz]; omega
theorem Ts (ks:List ND) (n:Nat):(DR ks n).length=(ks.map nodesN).sum:=Je ks (fun k _ n=>Ez k n) n
theorem Iu (x:ND):1≤nodesN x:=by rw [Bz]; omega
theorem Fe:∀ (ks:List ND) (n:Nat),(posS ks n).length=ks.length
 | [],_=>rfl
 | k::ks,n=>by rw [posS,List.length_cons,Fe ks,List.length_cons]
theorem ME (f:FT) (l:List FT):flatK (f::l)=f.kids++flatK l:=by simp [flatK]
theorem OS (a b:List FT):flatK (a++b)=flatK a++flatK b:=by simp [flatK]
theorem Tt:∀ (ks:List ND),(∀ k∈ks,∀ (n j:Nat),(flatK (allF k n)).count (j:Int)=if n < j∧j < n+nodesN k then 1 else 0) →
    ∀ (m j:Nat),(posS ks m++flatK (DR ks m)).count (j:Int)=if m≤j∧j < m+(ks.map nodesN).sum then 1 else 0
 | [],_,m,j=>by
   rw [posS,DR]
   simp [flatK]
 | k :: ks,h,m,j=>by
   have h1:=h k (by simp) m j
   have h2:=Tt ks (fun x hx=>h x (by simp [hx])) (m+nodesN k) j
   have h3:=Iu k
   rw [posS,DR,OS,List.map_cons,List.sum_cons]
   rw [List.count_append] at h2 ⊢
   rw [List.count_cons,List.count_append,h1]
   have h4:((m:Int)==(j:Int))=decide (m=j):=by
    rw [Bool.eq_iff_iff]; simp; omega
   rw [h4]
   generalize List.count (j:Int) (posS ks (m+nodesN k))=A at h2 ⊢
   generalize List.count (j:Int) (flatK (DR ks (m+nodesN k)))=B at h2 ⊢
   generalize (ks.map nodesN).sum=S at h2 ⊢
   generalize nodesN k=K at h2 h3 ⊢
   by_cases c1:m=j
   · subst c1
     rw [if_neg (by omega)] at h2
     simp only [decide_true,if_true]
     rw [if_neg (by omega),if_pos (by omega)]
     omega
   · simp only [c1,decide_false,Bool.false_eq_true,if_false]
     by_cases c2:m < j∧j < m+K
     · rw [if_neg (by omega)] at h2
       rw [if_pos c2,if_pos (by omega)]; omega
     · rw [if_neg c2]
       by_cases c3:m+K≤j∧j < m+K+S
       · rw [if_pos c3] at h2
         rw [if_pos (by omega)]; omega
       · rw [if_neg c3] at h2
         rw [if_neg (by omega)]; omega
theorem Vs:∀ (x:ND) (n j:Nat),(flatK (allF x n)).count (j:Int)=if n < j∧j < n+nodesN x then 1 else 0:=by
 refine ND.ind fun x ih n j=>?_
 rw [HL,ME]
 have h:=Tt x.kids ih (n+1) j
 show (posS x.kids (n+1)++flatK (DR x.kids (n+1))).count (j:Int)=_
 rw [h,Bz]
 congr 1
 rw [eq_iff_iff]
 omega
def Sits (l:List FT) (x:ND) (n:Nat):Prop:=∃ pre post,l=pre++(allF x n++post)∧pre.length=n
def PP (l:List FT) (ks:List ND) (n:Nat):Prop:=∃ pre post,l=pre++(DR ks n++post)∧pre.length=n
theorem Sits.fact {l:List FT} {x:ND} {n:Nat} (h:Sits l x n):l[n]? = some (HK x n)∧PP l x.kids (n+1)∧n+nodesN x≤l.length:=by
 obtain ⟨pre,post,rfl,rfl⟩:=h
 refine ⟨?_,⟨pre++[HK x pre.length],post,?_,by simp⟩,?_⟩
 · rw [List.getElem?_append_right (Nat.le_refl _),Nat.sub_self,HL]; rfl
 · rw [HL]; simp
 · rw [List.length_append,List.length_append,Ez]; omega
theorem PP.cons {l:List FT} {k:ND} {ks:List ND} {n:Nat} (h:PP l (k::ks) n):Sits l k n∧PP l ks (n+nodesN k):=by
 obtain ⟨pre,post,rfl,rfl⟩:=h
 refine ⟨⟨pre,DR ks (pre.length+nodesN k)++post,?_,rfl⟩,⟨pre++allF k pre.length,post,?_,by rw [List.length_append,Ez]⟩⟩
 · rw [DR]; simp
 · rw [DR]; simp
theorem Qc (x:ND):Sits (allF x 0) x 0:=⟨[],[],by simp,rfl⟩
theorem Tu:∀ {ks:List ND} {n i:Nat} {k:ND} {l:List FT},PP l ks n→ks[i]? = some k→∃ m,(posS ks n)[i]? = some ((m:Nat):Int)∧n≤m∧m+nodesN k≤n+(ks.map nodesN).sum∧Sits l k m
 | [],_,_,_,_,_,h=>by simp at h
 | x::ks,n,0,k,l,hs,h=>by
   simp only [List.getElem?_cons_zero,Option.some.injEq] at h
   subst h
   exact ⟨n,by rw [posS]; rfl,Nat.le_refl _,by rw [List.map_cons,List.sum_cons]; omega,hs.cons.1⟩
 | x::ks,n,i+1,k,l,hs,h=>by
   rw [List.getElem?_cons_succ] at h
   obtain ⟨m,h1,h2,h3,h4⟩:=Tu hs.cons.2 h
   have:=Iu x
   exact ⟨m,by rw [posS,List.getElem?_cons_succ]; exact h1,by omega,by rw [List.map_cons,List.sum_cons]; omega,h4⟩
theorem Tv:∀ (x:ND) {l:List FT} {n:Nat},CH x=true→Sits l x n→∀ j,n≤j→j < n+nodesN x→∃ y,Sits l y j∧CH y=true:=by
 refine ND.ind fun x ih l n hx h j h1 h2=>?_
 by_cases h0:j=n
 · subst h0; exact ⟨x,h,hx⟩
 rw [Bz] at h2
 have key:∀ (ks:List ND) (m:Nat),(∀ k∈ks,k∈x.kids∧CH k=true)→PP l ks m→m≤j→j < m+(ks.map nodesN).sum→∃ y,Sits l y j∧CH y=true:=by
  intro ks
  induction ks with
  | nil=>intro m _ _ h1 h2; simp at h2; omega
  | cons k ks ihk =>
    intro m hks hs h1 h2
    rw [List.map_cons,List.sum_cons] at h2
    by_cases hj:j < m+nodesN k
    · exact ih k (hks k (by simp)).1 (hks k (by simp)).2 hs.cons.1 j h1 hj
    · exact ihk (m+nodesN k) (fun y hy=>hks y (by simp [hy])) hs.cons.2 (by omega) (by omega)
 exact key x.kids (n+1) (fun k hm=>by
  obtain ⟨i,hi,rfl⟩:=List.mem_iff_getElem.1 hm
  exact ⟨hm,(NA hx).kid (List.getElem?_eq_getElem hi)⟩) h.fact.2.1 (by omega) (by omega)
theorem Iv {x:ND} (h:CH x=true):x.kind=1∨x.kind=2∨x.kind=3:=by
 rw [Ey] at h
 split at h
 · omega
 · split at h
   · omega
   · cases h
theorem Jf {x:ND} (h:CH x=true) (hk:x.kind≠2):x.names=[]∧x.kids=[]:=by
 rw [Ey] at h
 rcases Iv (by rw [Ey]; exact h) with h1 | h1 | h1
 · rw [if_pos (.inl h1)] at h
   simp only [Bool.and_eq_true,decide_eq_true_eq,List.length_eq_zero_iff] at h
   exact ⟨h.1,h.2.1⟩
 · exact absurd h1 hk
 · rw [if_pos (.inr h1)] at h
   simp only [Bool.and_eq_true,decide_eq_true_eq,List.length_eq_zero_iff] at h
   exact ⟨h.1,h.2.1⟩
theorem MF:∀ (p:Option (List Nat)) (ns:List (List Nat)) (ks:List ND),ns.length=ks.length→DE p ns ks=true→ascN p ns=true
 | _,[],_,_,_=>by simp [ascN]
 | _,_::_,[],h,_=>by simp at h
 | p,s::ns,k::ks,hl,h=>by
   simp only [DE,Bool.and_eq_true] at h
   simp only [ascN,Bool.and_eq_true]
   exact ⟨h.1,h.2.1,MF (some s) ns ks (by simpa using hl) h.2.2.2⟩
theorem Vt {x:ND} {n:Nat} (h:CH x=true):(HK x n).one=true:=by
 have hk:=Iv h
 have hl:=(NA h).len
 unfold FT.one FT.bad FT.isDir FT.restB HK
 simp only [Fe,hl]
 by_cases h2:x.kind=2
 · rw [Ey,if_neg (by omega),if_pos h2] at h
   simp only [Bool.and_eq_true,decide_eq_true_eq] at h
   have ha:=MF none _ _ h.2.1 h.2.2
   simp [h2,ha]
 · have he:=Jf h h2
   have h3:¬ 3 < x.kind:=by omega
   simp [h2,he.1,he.2,h3]
theorem PQ {a:ND} (h:CH a=true) (hk:a.kind=2):mayP (allF a 0)=true:=by
 have hl:=Ez a 0
 have hs:=Qc a
 have hf:∀ (i:Nat) (f:FT),(allF a 0)[i]? = some f→f.one=true∧∀ k∈f.kids,(i:Int) < k∧k < ((allF a 0).length:Int):=by
  intro i f hi
  have hi2:i < (allF a 0).length:=by rw [List.getElem?_eq_some_iff] at hi; exact hi.1
  obtain ⟨y,hy,hw⟩:=Tv a h hs i (by omega) (by omega)
  have h1:=hy.fact
  rw [hi] at h1
  obtain ⟨h1,h2,h3⟩:=h1
  cases h1
  refine ⟨Vt hw,fun k hkk=>?_⟩
  obtain ⟨c,hc,rfl⟩:=List.mem_iff_getElem.1 hkk
  have hc2:c < y.kids.length:=by have:=Fe y.kids (i+1); show c < _; unfold HK at hc; simp only at hc; omega
  obtain ⟨m,k1,k2,k3,k4⟩:=Tu h2 (List.getElem?_eq_getElem hc2)
  have:(HK y i).kids[c]=(m:Int):=by
   have:=List.getElem?_eq_getElem hc
   have h5:(HK y i).kids[c]? = some ((m:Nat):Int):=k1
   rw [h5] at this
   exact (Option.some.inj this).symm
  rw [this]
  have:=k4.fact.2.2
  have:=Iu y.kids[c]
  omega
 have hone:J5 (allF a 0)=true:=by
  rw [M5]
  intro j h1 h2
  unfold cntK
  rw [Vs,if_pos (by omega)]
 rw [HL] at hf hone ⊢
 unfold mayP
 simp only [Bool.and_eq_true,List.all_eq_true,Dx]
 refine ⟨by simp [FT.isDir,HK,hk],fun f hm=>?_,fun i f hi k hkk=>?_,hone⟩
 · obtain ⟨i,hi,rfl⟩:=List.mem_iff_getElem.1 hm
   exact (hf i _ (List.getElem?_eq_getElem hi)).1
 · have:=(hf i f hi).2 k hkk
   simpa using this

mutual
def Jz:ND→Option ND→Prop
 | .mk k _ ns ks,o=>(foundN o).kind=k∧((k=2→∀ y∈(foundN o).names,y∈ns)∧Iw ns ks o)
def Iw:List (List Nat)→List ND→Option ND→Prop
 | _,[],_=>True
 | [],_::_,_=>True
 | s::ns,k::ks,o=>Jz k (o.bind fun y=>kidN y s)∧Iw ns ks o
end
theorem LQ (x:ND) (o:Option ND):Jz x o↔((foundN o).kind=x.kind∧((x.kind=2→∀ y∈(foundN o).names,y∈x.names)∧Iw x.names x.kids o)):=by
 cases x with
 | mk k t ns ks=>rw [Jz]; exact Iff.rfl
theorem MG:∀ (ns:List (List Nat)) (ks:List ND) (o:Option ND),ns.length=ks.length→(Iw ns ks o↔∀ (i:Nat) (s:List Nat) (k:ND),ns[i]? = some s→ks[i]? = some k→Jz k (o.bind fun y=>kidN y s))
 | [],[],o,_=>by
   rw [Iw]; simp
 | [],_::_,_,h=>by simp at h
 | _::_,[],_,h=>by simp at h
 | s :: ns,k::ks,o,h=>by
   rw [Iw,MG ns ks o (by simpa using h)]
   constructor
   · rintro ⟨h1,h2⟩ i s' k' hs hk
     cases i with
     | zero =>
       simp only [List.getElem?_cons_zero,Option.some.injEq] at hs hk
       subst hs; subst hk; exact h1
     | succ i=>exact h2 i s' k' (by simpa using hs) (by simpa using hk)
   · intro h
     exact ⟨h 0 s k rfl rfl,fun i s' k' hs hk=>h (i+1) s' k' (by simpa using hs) (by simpa using hk)⟩
theorem MH:∀ (b:ND) (p:List (List Nat)) (s:List Nat),findP b (p++[s])=(findP b p).bind fun y=>kidN y s
 | b,[],s=>by
   simp only [List.nil_append,findP,Option.bind_some]
   cases kidN b s<;>rfl
 | b,a::p,s=>by
   simp only [List.cons_append,findP]
   cases h:kidN b a with
   | none=>rfl
   | some k=>exact MH k p s
theorem PS {l:List FT} (h:mayP l=true) {j:Nat} (hj:j < l.length) (b:ND):Hg l b (j:Int)=findP b (climb l j):=by
 have hc:0≤(j:Int)∧(j:Int) < (l.length:Int):=⟨by omega,by omega⟩
 simp only [Hg,Fd,h,if_true,hc,and_self,Int.toNat_natCast]
theorem Tw {f:FT} (hl:f.names.length=f.kids.length) (y:List Nat):FO f f.names.length y=decide (y∈f.names):=by
 unfold FO
 cases h:f.names.findIdx? (·==y) with
 | none =>
   rw [List.findIdx?_eq_none_iff] at h
   simp only
   rw [eq_comm,decide_eq_false_iff_not]
   intro hm
   have:=h y hm
   simp at this
 | some i =>
   rw [List.findIdx?_eq_some_iff_getElem] at h
   obtain ⟨h1,h2,_⟩:=h
   have hm:y∈f.names:=by
    simp only [beq_iff_eq] at h2
    rw [← h2]; exact List.getElem_mem h1
   have hk:=List.getElem?_eq_getElem (show i < f.kids.length by omega)
   simp only [hk]
   rw [decide_eq_true hm,decide_eq_true_eq,List.take_of_length_le (by rw [HC]; omega)]
   exact (RM f.kids).mem_iff.2 (List.getElem_mem _)
theorem Tx {l:List FT} (h:mayP l=true) {x:ND} {n:Nat} (hx:CH x=true) (hs:Sits l x n) (b:ND) :
    F7 l b n=false↔((foundN (findP b (climb l n))).kind=x.kind∧(x.kind=2→∀ y∈(foundN (findP b (climb l n))).names,y∈x.names)):=by
 obtain ⟨h1,_,h3⟩:=hs.fact
 have hp:=Iu x
 unfold F7
 rw [h1,PS h (by omega)]
 generalize foundN (findP b (climb l n))=z
 have hl:(HK x n).names.length=(HK x n).kids.length:=by
  show x.names.length=(posS x.kids (n+1)).length
  rw [Fe]; exact (NA hx).len
 have hE:x.kind=2→(C2 (HK x n) z.names=true↔∀ y∈z.names,y∈x.names):=fun hk=>by
  have hr:(HK x n).rest=1:=by simp [HK,hk]
  unfold C2
  rw [if_pos hr]
  simp only [Tw hl]
  simp only [HK,Bool.not_eq_true',List.any_eq_false,Bool.not_eq_true',Bool.not_eq_false]
  exact ⟨fun h y hy=>of_decide_eq_true (h y hy),fun h y hy=>decide_eq_true (h y hy)⟩
 show (true&&(decide (z.kind≠x.kind)||(decide (z.kind=2)&&!C2 (HK x n) z.names)))=false↔_
 rw [Bool.true_and]
 by_cases hk:z.kind=x.kind
 · rw [decide_eq_false (by simp [hk]),Bool.false_or]
   by_cases h2:x.kind=2
   · rw [decide_eq_true (by omega),Bool.true_and,Bool.not_eq_false']
     rw [hE h2]
     exact ⟨fun h=>⟨hk,fun _=>h⟩,fun h=>h.2 h2⟩
   · rw [decide_eq_false (by omega),Bool.false_and]
     exact ⟨fun _=>⟨hk,fun h=>absurd h h2⟩,fun _=>rfl⟩
 · rw [decide_eq_true hk,Bool.true_or]
   exact ⟨fun h=>(by cases h),fun h=>absurd h.1 hk⟩
theorem YQ:∀ (x:ND),CH x=true→∀ {l:List FT} {n:Nat},mayP l=true→Sits l x n→∀ b:ND,(∀ j,n≤j→j < n+nodesN x→F7 l b j=false)↔Jz x (findP b (climb l n)):=by
 refine ND.ind fun x ih hx l n hl hs b=>?_
 have hF:=Tx hl hx hs b
 obtain ⟨hf,hS,hlen⟩:=hs.fact
 have hWl:=(NA hx).len
 rw [LQ,← and_assoc,← hF]
 have key:∀ (ks:List ND) (ns:List (List Nat)) (m i:Nat),ns.length=ks.length→(∀ c,ks[c]? = x.kids[i+c]?)→(∀ c,ns[c]? = x.names[i+c]?)→(∀ c,(posS ks m)[c]? = (posS x.kids (n+1))[i+c]?)→PP l ks m →
     ((∀ j,m≤j→j < m+(ks.map nodesN).sum→F7 l b j=false)↔Iw ns ks (findP b (climb l n))):=by
  intro ks
  induction ks with
  | nil =>
    intro ns m i _ _ _ _ _
    constructor
    · intro _; cases ns<;>simp [Iw]
    · intro _ j h1 h2; simp at h2; omega
  | cons k ks ihk =>
    intro ns m i hlen hks hns hps hS
    cases ns with
    | nil=>simp at hlen
    | cons s ns =>
      have hk:x.kids[i]? = some k:=by have:=hks 0; simpa using this.symm
      have hn:x.names[i]? = some s:=by have:=hns 0; simpa using this.symm
      have hp:(posS x.kids (n+1))[i]? = some ((m:Nat):Int):=by have:=hps 0; simpa [posS] using this.symm
      have hkm:=List.mem_of_getElem? hk
      have hkw:=(NA hx).kid hk
      have hc:=LO hl hf (i:=i) (k:=(m:Int)) (s:=s) hp hn
      rw [Int.toNat_natCast] at hc
      have h1:=ih k hkm hkw hl hS.cons.1 b
      rw [hc,MH] at h1
      have h2:=ihk ns (m+nodesN k) (i+1) (by simpa using hlen) (fun c=>by have:=hks (c+1); rw [List.getElem?_cons_succ] at this; rw [this]; congr 1; omega) (fun c=>by have:=hns (c+1); rw [List.getElem?_cons_succ] at this; rw [this]; congr 1; omega)
       (fun c=>by have:=hps (c+1); rw [posS,List.getElem?_cons_succ] at this; rw [this]; congr 1; omega) hS.cons.2
      rw [Iw,← h1,← h2,List.map_cons,List.sum_cons]
      constructor
      · intro h
        exact ⟨fun j a1 a2=>h j a1 (by omega),fun j a1 a2=>h j (by omega) (by omega)⟩
      · rintro ⟨a,c⟩ j b1 b2
        by_cases hj:j < m+nodesN k
        · exact a j b1 hj
        · exact c j (by omega) (by omega)
 have hk:=key x.kids x.names (n+1) 0 hWl (fun c=>by rw [Nat.zero_add]) (fun c=>by rw [Nat.zero_add]) (fun c=>by rw [Nat.zero_add]) hS
 rw [← hk,Bz]
 constructor
 · intro h
   exact ⟨h n (Nat.le_refl _) (by omega),fun j a1 a2=>h j (by omega) (by omega)⟩
 · rintro ⟨a,c⟩ j b1 b2
   by_cases hj:j=n
   · subst hj; exact a
   · exact c j (by omega) (by omega)
def bareN:ND→ND
 | .mk k _ ns ks=>.mk k (if k=3 then [120] else []) ns (bareL ks)
where
 bareL:List ND→List ND
  | []=>[]
  | k::ks=>bareN k::bareL ks
theorem OT:∀ ks:List ND,bareN.bareL ks=ks.map bareN
 | []=>by simp [bareN.bareL]
 | k::ks=>by rw [bareN.bareL,OT ks,List.map_cons]
theorem Ff (x:ND):bareN x=.mk x.kind (if x.kind=3 then [120] else []) x.names (x.kids.map bareN):=by
 cases x with
 | mk k t ns ks=>rw [bareN,OT]; rfl
theorem Vu (x y:ND):bareN x=bareN y↔(x.kind=y.kind∧x.names=y.names∧x.kids.map bareN=y.kids.map bareN):=by
 rw [Ff x,Ff y]
 constructor
 · intro h
   injection h with h1 h2 h3 h4
   exact ⟨h1,h3,h4⟩
 · rintro ⟨h1,h2,h3⟩
   rw [h1,h2,h3]
theorem MI:∀ {a b:List (List Nat)},Asc a→Asc b→(∀ x,x∈a↔x∈b)→a=b
 | [],[],_,_,_=>rfl
 | [],y::b,_,_,h=>by have:=(h y).2 (by simp); cases this
 | x::a,[],_,_,h=>by have:=(h x).1 (by simp); cases this
 | x :: a,y::b,ha,hb,h=>by
   have hlt:∀ {z:List Nat} {l:List (List Nat)},Asc (z::l)→∀ w∈l,ltN z w=true:=fun hz w hw=>by
    obtain ⟨i,hi,rfl⟩:=List.mem_iff_getElem.1 hw
    exact hz (i:=0) (j:=i+1) (by omega) rfl (by rw [List.getElem?_cons_succ]; exact List.getElem?_eq_getElem hi)
   have hxy:x=y:=by
    have h1:=(h x).1 (by simp)
    have h2:=(h y).2 (by simp)
    rcases List.mem_cons.1 h1 with h1 | h1
    · exact h1
    · rcases List.mem_cons.1 h2 with h2 | h2
      · exact h2.symm
      · have:=HI (hlt hb x h1) (hlt ha y h2)
        rw [IB] at this; cases this
   subst hxy
   have tl:∀ {z:List Nat} {l:List (List Nat)},Asc (z::l)→Asc l:=fun hz i j a b hij h1 h2=>@hz (i+1) (j+1) a b (by omega) (by simpa using h1) (by simpa using h2)
   congr 1
   refine MI (tl ha) (tl hb) fun z=>?_
   constructor
   · intro hz
     rcases List.mem_cons.1 ((h z).1 (by simp [hz])) with rfl | h'
     · have:=hlt ha _ hz; rw [IB] at this; cases this
     · exact h'
   · intro hz
     rcases List.mem_cons.1 ((h z).2 (by simp [hz])) with rfl | h'
     · have:=hlt hb _ hz; rw [IB] at this; cases this
     · exact h'
theorem Wg {y:ND} (hy:CH y=true) (hk:y.kind=2) {i:Nat} {s:List Nat} (hs:y.names[i]? = some s):kidN y s=y.kids[i]? := by
 unfold kidN
 rw [if_pos hk]
 have:y.names.findIdx? (·==s)=some i:=by
  refine PD hs fun j hj z hz=>?_
  rintro rfl
  have:=(NA hy).asc hj hz hs
  rw [IB] at this; cases this
 rw [this]
theorem RT:∀ (x:ND),CH x=true→∀ (y:ND),CH y=true→(Jz x (some y)↔bareN x=bareN y):=by
 refine ND.ind fun x ih hx y hy=>?_
 have dx:=NA hx
 have dy:=NA hy
 rw [LQ,Vu,MG _ _ _ dx.len]
 show (y.kind=x.kind∧((x.kind=2→∀ z∈y.names,z∈x.names)∧∀ (i:Nat) (s:List Nat) (k:ND),x.names[i]? = some s→x.kids[i]? = some k→Jz k (kidN y s)))↔_
 have hno:∀ k,CH k=true→¬ Jz k none:=fun k hk h=>by
  rw [LQ] at h
  have h1:(0:Nat)=k.kind:=h.1
  have:=Iv hk
  omega
 by_cases hk:y.kind=x.kind
 case neg=>exact ⟨fun h=>absurd h.1 hk,fun h=>absurd h.1.symm hk⟩
 by_cases h2:x.kind=2
 case neg =>
  obtain ⟨e1,e2⟩:=Jf hx h2
  obtain ⟨e3,e4⟩:=Jf hy (by omega)
  rw [e1,e2,e3,e4]
  exact ⟨fun _=>⟨hk.symm,rfl,rfl⟩,fun _=>⟨hk,fun h=>absurd h h2,fun i s k h=>by simp at h⟩⟩
 constructor
 · rintro ⟨_,hsub,hkids⟩
   have hsub:=hsub h2
   have hsub2:∀ z∈x.names,z∈y.names:=fun z hz=>by
    obtain ⟨i,hi,rfl⟩:=List.mem_iff_getElem.1 hz
    have h3:=hkids i _ _ (List.getElem?_eq_getElem hi) (List.getElem?_eq_getElem (show i < x.kids.length by have:=dx.len; omega))
    cases hc:kidN y x.names[i] with
    | none =>
      rw [hc] at h3
      exact absurd h3 (hno _ (dx.kid (List.getElem?_eq_getElem (show i < x.kids.length by have:=dx.len; omega))))
    | some c =>
      unfold kidN at hc
      rw [if_pos (by omega)] at hc
      cases hf:y.names.findIdx? (·==x.names[i]) with
      | none=>rw [hf] at hc; cases hc
      | some j =>
        rw [List.findIdx?_eq_some_iff_getElem] at hf
        obtain ⟨h5,h6,_⟩:=hf
        simp only [beq_iff_eq] at h6
        rw [← h6]; exact List.getElem_mem h5
   have hn:x.names=y.names:=MI dx.asc dy.asc fun z=>⟨hsub2 z,hsub z⟩
   refine ⟨hk.symm,hn,?_⟩
   have hl:x.kids.length=y.kids.length:=by rw [← dx.len,← dy.len,hn]
   refine List.ext_getElem (by simpa using hl) fun i h3 h4=>?_
   rw [List.getElem_map,List.getElem_map]
   rw [List.length_map] at h3 h4
   have g1:=List.getElem?_eq_getElem h3
   have g2:=List.getElem?_eq_getElem h4
   have gs:=List.getElem?_eq_getElem (show i < x.names.length by have:=dx.len; omega)
   have h5:=hkids i _ _ gs g1
   rw [Wg hy (by omega) (by rw [← hn]; exact gs),g2] at h5
   exact (ih _ (List.getElem_mem h3) (dx.kid g1) _ (dy.kid g2)).1 h5
 · rintro ⟨_,hn,hb⟩
   refine ⟨hk,fun _ z hz=>by rw [hn]; exact hz,fun i s k hs hkk=>?_⟩
   have hi:i < x.kids.length:=by rw [List.getElem?_eq_some_iff] at hkk; exact hkk.1
   have hl:x.kids.length=y.kids.length:=by have:=congrArg List.length hb; simpa using this
   have g2:=List.getElem?_eq_getElem (show i < y.kids.length by omega)
   rw [Wg hy (by omega) (by rw [← hn]; exact hs),g2]
   refine (ih k (List.mem_of_getElem? hkk) (dx.kid hkk) _ (dy.kid g2)).2 ?_
   have h1:(x.kids.map bareN)[i]? = (y.kids.map bareN)[i]? := by rw [hb]
   rw [List.getElem?_map,List.getElem?_map,hkk,g2] at h1
   exact Option.some.inj h1
theorem OU {a b:ND} (ha:CH a=true) (hk:a.kind=2) (hb:CH b=true):(∀ j,j < (allF a 0).length→F7 (allF a 0) b j=false)↔bareN a=bareN b:=by
 rw [← RT a ha b hb]
 have h:=YQ a ha (PQ ha hk) (Qc a) b
 rw [Hd] at h
 rw [show findP b []=some b from rfl] at h
 rw [← h,Ez]
 exact ⟨fun h j _ h2=>h j (by omega),fun h j h2=>h j (Nat.zero_le _) (by omega)⟩
theorem ET (l:List FT) (b:ND):C6 l b=true↔(mayP l=true∧mayN b=true∧∀ j,j < l.length→F7 l b j=false):=by
 unfold C6 El
 cases hm:mayP l with
 | false=>simp
 | true =>
   cases hb:mayN b with
   | false=>simp
   | true =>
     simp only [Bool.and_self,if_true,true_and]
     cases hf:(List.range l.length).find? (F7 l b) with
     | some i =>
       simp only [Bool.and_eq_true,decide_eq_true_eq]
       rw [List.find?_range_eq_some] at hf
       constructor
       · intro h; omega
       · intro h
         have:=h i (by simpa using hf.2.1)
         rw [hf.1] at this; cases this
     | none =>
       simp only [Bool.and_eq_true,decide_eq_true_eq]
       rw [List.find?_eq_none] at hf
       constructor
       · intro _ j hj
         have:=hf j (by simpa using hj)
         simpa using this
       · intro _; simp

theorem Ix (x:ND):(bareN x).kind=x.kind:=by rw [Ff]; rfl
theorem Jg (x:ND):(bareN x).names=x.names:=by rw [Ff]; rfl
theorem Iy (x:ND):(bareN x).kids=x.kids.map bareN:=by rw [Ff]; rfl
theorem Ty (x:ND):(bareN x).text=if x.kind=3 then [120] else []:=by rw [Ff]; rfl
theorem MJ:∀ x:ND,nodesN (bareN x)=nodesN x:=by
 refine ND.ind fun x ih=>?_
 rw [Bz,Bz x,Iy,List.map_map]
 congr 2
 exact List.map_congr_left fun k hk=>ih k hk
theorem Tz:∀ x:ND,deepN (bareN x)=deepN x:=by
 refine ND.ind fun x ih=>?_
 rw [Ir,Ir x,Iy,List.map_map]
 congr 1
 exact List.map_congr_left fun k hk=>by simp only [Function.comp]; rw [ih k hk]
theorem MK:∀ (ks:List ND),(∀ k∈ks,CH k=true→CH (bareN k)=true)→∀ (p:Option (List Nat)) (ns:List (List Nat)),DE p ns ks=true→DE p ns (ks.map bareN)=true
 | [],_,p,ns,_=>by simp [DE]
 | k::ks,h,p,[],_=>by simp [DE]
 | k::ks,h,p,s::ns,hw=>by
   simp only [DE,Bool.and_eq_true] at hw
   rw [List.map_cons]
   simp only [DE,Bool.and_eq_true]
   exact ⟨hw.1,hw.2.1,h k (by simp) hw.2.2.1,MK ks (fun x hx=>h x (by simp [hx])) (some s) ns hw.2.2.2⟩
theorem T1:∀ x:ND,CH x=true→CH (bareN x)=true:=by
 refine ND.ind fun x ih h=>?_
 have hk:=Iv h
 rw [Ey] at h ⊢
 rw [Ix,Jg,Iy,Ty]
 by_cases h2:x.kind=2
 · rw [if_neg (by omega),if_pos h2] at h ⊢
   simp only [Bool.and_eq_true,decide_eq_true_eq] at h ⊢
   refine ⟨by simp [h2],by rw [List.length_map]; exact h.2.1,MK _ ih _ _ h.2.2⟩
 · rw [if_pos (by omega)] at h ⊢
   simp only [Bool.and_eq_true,decide_eq_true_eq] at h
   rcases hk with h1 | h1 | h1
   · simp [h1,h.1,h.2.1]
   · exact absurd h1 h2
   · simp [h1,h.1,h.2.1]
theorem Vv {b:ND} (h:mayN b=true):mayN (bareN b)=true:=by
 unfold mayN at h ⊢
 simp only [Bool.and_eq_true,decide_eq_true_eq] at h ⊢
 rw [Ix,MJ,Tz]
 exact ⟨h.1,T1 b h.2.1,h.2.2⟩
theorem T3 (b:ND) (s:List Nat):kidN (bareN b) s=(kidN b s).map bareN:=by
 unfold kidN
 rw [Ix,Jg,Iy]
 split
 · cases b.names.findIdx? (·==s) with
   | none=>rfl
   | some i=>simp only [List.getElem?_map]
 · rfl
theorem ML:∀ (p:List (List Nat)) (b:ND),findP (bareN b) p=(findP b p).map bareN
 | [],b=>rfl
 | s::p,b=>by
   simp only [findP]
   rw [T3]
   cases kidN b s with
   | none=>rfl
   | some k=>exact ML p k
theorem MM (o:Option ND):(foundN (o.map bareN)).kind=(foundN o).kind∧(foundN (o.map bareN)).names=(foundN o).names:=by
 cases o with
 | none=>exact ⟨rfl,rfl⟩
 | some x=>exact ⟨Ix x,Jg x⟩
theorem T4 (l:List FT) (b:ND) (j:Nat):F7 l (bareN b) j=F7 l b j:=by
 unfold F7 Hg
 cases l[j]? with
 | none=>rfl
 | some f =>
   simp only
   split
   · rw [ML,(MM _).1,(MM _).2]
   · rfl
theorem RU (l:List FT) {b:ND} (h:mayN b=true):C6 l (bareN b)=C6 l b:=by
 rw [Bool.eq_iff_iff,ET,ET]
 simp only [T4,h,Vv h]
/-! ### RV that say less -/
theorem J0 {l l':List FT} (hk:l.map FT.kids=l'.map FT.kids) (hn:l.map FT.names=l'.map FT.names):∀ (d n:Nat),Gi l' d n=Gi l d n
 | 0,_=>rfl
 | d + 1,n=>by
   have hc:∀ j,cntK l' j=cntK l j:=fun j=>by unfold cntK flatK; rw [hk]
   have ha:∀ j,Ek l' j=Ek l j:=fun j=>by
    unfold Ek
    rw [hc]
    have h:∀ L:List FT,(L.findIdx? fun f=>f.kids.contains j)=(L.map FT.kids).findIdx? fun k=>k.contains j:=fun L=>by rw [List.findIdx?_map]; rfl
    rw [h l',h l,hk]
   rw [Gi,Gi,ha]
   split
   · rfl
   · cases Ek l (n:Int) with
     | none=>rfl
     | some u =>
       have h1:(l.map FT.kids)[u]? = (l'.map FT.kids)[u]? := by rw [hk]
       have h2:(l.map FT.names)[u]? = (l'.map FT.names)[u]? := by rw [hn]
       rw [List.getElem?_map,List.getElem?_map] at h1 h2
       simp only
       cases hl:l[u]? with
       | none =>
         rw [hl] at h1
         cases hl':l'[u]? with
         | none=>rfl
         | some f'=>rw [hl'] at h1; cases h1
       | some f =>
         rw [hl] at h1 h2
         cases hl':l'[u]? with
         | none=>rw [hl'] at h1; cases h1
         | some f' =>
           rw [hl'] at h1 h2
           have e1:f.kids=f'.kids:=Option.some.inj h1
           have e2:f.names=f'.names:=Option.some.inj h2
           simp only
           rw [J0 hk hn d u]
           unfold Th
           rw [e1,e2]
theorem PU {l l':List FT} (hk:l.map FT.kids=l'.map FT.kids) (hn:l.map FT.names=l'.map FT.names) (n:Nat):climb l' n=climb l n:=J0 hk hn _ _
theorem T5 {α β:Type} (g:α→β) {l:List α} {n:Nat} {f f':α} (h:l[n]? = some f) (e:g f'=g f):l.map g=(l.set n f').map g:=by
 rw [List.map_set,e]
 rw [List.getElem?_eq_some_iff] at h
 obtain ⟨hn,rfl⟩:=h
 rw [← List.getElem_map g (h:=by simpa using hn),List.set_getElem_self]
theorem MN {l:List FT} {b:ND} (h:C6 l b=true) {n:Nat} {f f':FT} (hf:l[n]? = some f) (hn:f'.names=f.names) (hk:f'.kids=f.kids) (h1:f'.one=true) (hd:f'.isDir=true∨1≤n)
    (hs:f'.known=true→f'.known=f.known∧f'.kind=f.kind∧f'.rest=0):C6 (l.set n f') b=true:=by
 rw [ET] at h ⊢
 obtain ⟨hm,hb,hall⟩:=h
 have mk:=T5 FT.kids hf hk
 have mn:=T5 FT.names hf hn
 have hnl:n < l.length:=by rw [List.getElem?_eq_some_iff] at hf; exact hf.1
 have hm':mayP (l.set n f')=true:=by
  have hfl:flatK (l.set n f')=flatK l:=by unfold flatK; rw [mk]
  have hone:J5 (l.set n f')=J5 l:=by
   unfold J5 cntK
   rw [hfl,List.length_set]
  have hget:∀ (a:Nat) (g:FT),(l.set n f')[a]? = some g→(a=n∧g=f')∨l[a]? = some g:=fun a g hg=>by
   rw [List.getElem?_set] at hg
   split at hg
   · rename_i hna
     subst hna
     exact .inl ⟨rfl,(Option.some.inj hg).symm⟩
   · exact .inr hg
  have hbe:F5 (l.set n f').length 0 (l.set n f')=true:=by
   rw [Dx]
   intro a g hg k hkk
   rw [List.length_set]
   have hbl:F5 l.length 0 l=true:=by
    cases l with
    | nil=>rfl
    | cons x t=>simp only [mayP,Bool.and_eq_true] at hm; exact hm.2.2.1
   rw [Dx] at hbl
   rcases hget a g hg with ⟨rfl,rfl⟩ | hg
   · exact hbl _ f hf k (by rw [← hk]; exact hkk)
   · exact hbl a g hg k hkk
  have hall1:∀ g∈l.set n f',g.one=true:=fun g hg=>by
   obtain ⟨a,ha,rfl⟩:=List.mem_iff_getElem.1 hg
   rcases hget a _ (List.getElem?_eq_getElem ha) with ⟨_,e⟩ | hg
   · rw [e]; exact h1
   · exact (mayD hm).one _ (List.mem_of_getElem? hg)
  cases l with
  | nil=>simp at hnl
  | cons x t =>
    cases n with
    | zero =>
      rw [List.set_cons_zero] at hbe hone hall1 ⊢
      have hxd:f'.isDir=true:=by rcases hd with hd | hd; exact hd; omega
      simp only [mayP,Bool.and_eq_true,List.all_eq_true] at hm ⊢
      exact ⟨hxd,hall1,hbe,by rw [hone]; exact hm.2.2.2⟩
    | succ n =>
      rw [List.set_cons_succ] at hbe hone hall1 ⊢
      simp only [mayP,Bool.and_eq_true,List.all_eq_true] at hm ⊢
      exact ⟨hm.1,hall1,hbe,by rw [hone]; exact hm.2.2.2⟩
 refine ⟨hm',hb,fun j hj=>?_⟩
 rw [List.length_set] at hj
 have hjl:=hall j hj
 unfold F7 at hjl ⊢
 rw [PS hm hj] at hjl
 rw [PS hm' (by rw [List.length_set]; exact hj),PU mk mn]
 rw [List.getElem?_set]
 by_cases hjn:n=j
 · subst hjn
   rw [if_pos rfl,if_pos hnl]
   rw [hf] at hjl
   simp only at hjl ⊢
   cases hkn:f'.known with
   | false=>rfl
   | true =>
     obtain ⟨e1,e2,e3⟩:=hs hkn
     rw [← e1,hkn] at hjl
     simp only [Bool.true_and,Bool.or_eq_false_iff] at hjl ⊢
     refine ⟨by rw [e2]; exact hjl.1,?_⟩
     have:C2 f' (foundN (findP b (climb l n))).names=true:=by
      unfold C2
      rw [if_neg (by omega),if_neg (by omega)]
     rw [this]; simp
 · rw [if_neg hjn]; exact hjl
theorem Vw {f:FT} (h:f.one=true):({ f with rest:=0,beside:=0 }:FT).one=true:=by
 unfold FT.one at h ⊢
 simp only [Bool.and_eq_true] at h ⊢
 refine ⟨h.1,?_⟩
 have h2:=h.2
 unfold FT.isDir FT.restB at h2 ⊢
 cases hd:(f.known&&decide (f.kind=2)) with
 | true =>
   rw [hd] at h2
   simp only [if_true,Bool.and_eq_true] at h2 ⊢
   exact ⟨h2.1,by simp⟩
 | false =>
   rw [hd] at h2
   simp only [Bool.false_eq_true,if_false,Bool.and_eq_true,decide_eq_true_eq] at h2 ⊢
   exact ⟨h2.1,trivial,trivial⟩
def noF:FT:=⟨false,0,[],[],0,0⟩
theorem Vx {l:List FT} {b:ND} (h:C6 l b=true) {n:Nat} {f:FT} (hf:l[n]? = some f) (hn:1≤n):C6 (l.set n { f with rest:=0,beside:=0 }) b=true:=by
 have hm:=((ET l b).1 h).1
 exact MN h hf rfl rfl (Vw ((mayD hm).one _ (List.mem_of_getElem? hf))) (.inr hn) fun hk=>⟨rfl,rfl,rfl⟩
theorem Vy {l:List FT} {b:ND} (h:C6 l b=true) {n:Nat} {f:FT} (hf:l[n]? = some f) (hn:1≤n) (he:f.names=[]):C6 (l.set n noF) b=true:=by
 have hm:=((ET l b).1 h).1
 have h1:=E9 ((mayD hm).one _ (List.mem_of_getElem? hf))
 rw [he] at h1
 have hk:f.kids=[]:=List.length_eq_zero_iff.1 h1.symm
 exact MN h hf (by rw [he]; rfl) (by rw [hk]; rfl) (by decide) (.inr hn) fun hk=>by cases hk
end Go.Proofs.Ytgloinighjdhlaa

set_option maxHeartbeats 8000000
namespace Go.Proofs.Ytgloinighjdhlaa
open Go.Proofs.Ytgloinighjdhlaa.Am
attribute [local irreducible] W WO WE WQ WD Tr.get Tr.set
theorem Wh {α:Type} {a b:List α} (hl:a.length=b.length) {i:Nat} (hi:i=a.length) (h:a.take i=b.take i):a=b:=by
 subst hi
 rw [List.take_length,hl,List.take_length] at h
 exact h
theorem Wi {α:Type} {a b:List α} {i:Nat} {x y:α} (hx:a[i]? = some x) (hy:b[i]? = some y) (h:x≠y):a≠b:=fun hh=>by
 subst hh
 rw [hx] at hy
 exact h (Option.some.inj hy)
theorem T6 {α:Type} {a b:List α} {i:Nat} {x:α} (hx:a[i]? = some x) (hy:b[i]? = some x) (h:a.take i=b.take i):a.take (i+1)=b.take (i+1):=by
 rw [List.take_add_one,List.take_add_one,hx,hy,h]
theorem PV : ∀ a:ND,a.Ok→∀ b:ND,b.Ok→∀ s,Wf s→∃ r,(lim prog).call Aa [.agg a.cells,.agg b.cells] s=some (.b r,s)∧(r=true↔a=b):=by
 refine ND.ind fun a ih ha b hb s hw=>?_
 suffices h:∃ r s',(lim prog).call Aa [.agg a.cells,.agg b.cells] s=some (r,s')∧∃ z,r=.b z∧s'=s∧(z=true↔a=b) by
  obtain ⟨r,s',h1,z,rfl,rfl,h2⟩:=h
  exact ⟨z,h1,h2⟩
 refine fn_G D9 rfl rfl ?_
 have hz0:wkZ BE.cin [.agg a.cells,.agg b.cells]=[.agg a.cells,.agg b.cells]:=by simp [BE,wkZ,wk,ND.cells]
 rw [hz0]
 have e0:s.enter.nb=s.nb:=rfl
 have H1:=((Hp.begin hw).new (.cells 47 a.cells)).new (.cells 47 b.cells)
 have e1:(s.enter.new (.cells 47 a.cells)).nb=s.nb+1:=rfl
 obtain ⟨q,hq⟩:∃ q,(s.enter.new (.cells 47 a.cells)).new (.cells 47 b.cells)=q:=⟨_,rfl⟩
 rw [hq,e1,e0] at H1
 have finF:a≠b→∃ vs s2,(some ([AV.b false],q):Option (List AV×St))=some (vs,s2)∧∃ z',Bt (wkZ [.id] vs)=.b z'∧leave s s2 (Bt vs)=s∧(z'=true↔a=b):=fun h=>⟨_,_,rfl,false,rfl,H1.over.leave rfl,⟨fun hh=>(by cases hh),fun hh=>absurd hh h⟩⟩
 have finT:a=b→∃ vs s2,(some ([AV.b true],q):Option (List AV×St))=some (vs,s2)∧∃ z',Bt (wkZ [.id] vs)=.b z'∧leave s s2 (Bt vs)=s∧(z'=true↔a=b):=fun h=>⟨_,_,rfl,true,rfl,H1.over.leave rfl,⟨fun _=>h,fun _=>rfl⟩⟩
 have a0:=H1.ld 1 (off:=0) (v:=.i .u8 (a.kind:Nat)) rfl rfl
 have a1:=H1.ld 1 (off:=1) (v:=.s a.text) rfl rfl
 have a2:=H1.ld 1 (off:=2) (v:=tx a.names) rfl rfl
 have a3:=H1.ld 1 (off:=3) (v:=.ws false 4 (a.kids.map ND.av)) rfl rfl
 have b0:=H1.ld 0 (off:=0) (v:=.i .u8 (b.kind:Nat)) rfl rfl
 have b1:=H1.ld 0 (off:=1) (v:=.s b.text) rfl rfl
 have b2:=H1.ld 0 (off:=2) (v:=tx b.names) rfl rfl
 have b3:=H1.ld 0 (off:=3) (v:=.ws false 4 (b.kids.map ND.av)) rfl rfl
 have hall:a=b↔a.kind=b.kind∧a.text=b.text∧a.names=b.names∧a.kids=b.kids:=by
  cases a; cases b; simp [ND.kind,ND.text,ND.names,ND.kids]
 have hia:=ha.names.2
 have hib:=hb.names.2
 have hka:=ha.kids.2
 have hkb:=hb.kids.2
 have eK:((a.kind:Int)≠(b.kind:Int))=(a.kind≠b.kind):=propext (by omega)
 have eI:((a.names.length:Int)≠(b.names.length:Int))=(a.names.length≠b.names.length):=propext (by omega)
 have eL:((a.kids.length:Int)≠(b.kids.length:Int))=(a.kids.length≠b.kids.length):=propext (by omega)
 by_cases hcase:a.kind=b.kind∧a.text=b.text∧a.names.length=b.names.length∧a.kids.length=b.kids.length
 · obtain ⟨h1,h2,h3,h4⟩:=hcase
   have p1:(a.kind≠b.kind)=False:=eq_false (fun h=>h h1)
   have p2:(a.text≠b.text)=False:=eq_false (fun h=>h h2)
   have p3:(a.names.length≠b.names.length)=False:=eq_false (fun h=>h h3)
   have p4:(a.kids.length≠b.kids.length)=False:=eq_false (fun h=>h h4)
   simp only [BE,go_sem,AD,AA,AC,AB,KB_n,KB_x,Nat.reduceBEq,Nat.reduceAdd,Nat.reduceLT,Nat.reduceLeDiff,Nat.reduceEqDiff,reduceIte,Int.reduceEq,reduceCtorEq,Af,e0,e1,hq,a0,a1,a2,a3,b0,b1,b2,b3,List.length_map,eK,eI,eL,p1,p2,p3,p4]
   refine Bv (fun x e q'=>∃ i:Nat,i+x=a.names.length∧a.names.take i=b.names.take i∧q'=q∧e.get 2=.p s.nb 0∧e.get 3=.p (s.nb+1) 0∧e.get 5=.i .i64 (i:Nat)) ?_ a.names.length _ _ ?_
   · rintro x e q' ⟨i,hix,heq,rfl,g2,g3,g5⟩
     by_cases h:i < a.names.length
     · have f1:((i:Int) < (a.names.length:Int))=True:=eq_true (by omega)
       obtain ⟨y,hy⟩:∃ y,a.names[i]? = some y:=⟨_,List.getElem?_eq_getElem h⟩
       obtain ⟨z,hz⟩:∃ z,b.names[i]? = some z:=⟨_,List.getElem?_eq_getElem (by omega)⟩
       have hy2:(a.names.map AV.s)[i]? = some (.s y):=by rw [List.getElem?_map,hy]; rfl
       have hz2:(b.names.map AV.s)[i]? = some (.s z):=by rw [List.getElem?_map,hz]; rfl
       have hw1:=Ap (show i+1 < 2^63 by omega)
       rcases Classical.propComplete (y≠z) with hyz | hyz
       · simp only [go_sem,AD,AA,AC,AB,KB_n,KB_x,Nat.reduceBEq,Nat.reduceAdd,Nat.reduceLT,Nat.reduceLeDiff,Nat.reduceEqDiff,reduceIte,Int.reduceEq,reduceCtorEq,g2,g3,g5,a2,b2,List.length_map,f1,AJ,hy2,hz2,BZ,C7,hyz]
         exact finF (fun hh=>absurd (congrArg ND.names hh) (Wi hy hz (of_eq_true hyz)))
       · simp only [go_sem,AD,AA,AC,AB,KB_n,KB_x,Nat.reduceBEq,Nat.reduceAdd,Nat.reduceLT,Nat.reduceLeDiff,Nat.reduceEqDiff,reduceIte,Int.reduceEq,reduceCtorEq,g2,g3,g5,a2,b2,List.length_map,f1,AJ,hy2,hz2,BZ,C7,hyz,hw1]
         refine ⟨x - 1,by omega,i+1,by omega,?_,rfl⟩
         have hyz:y=z:=Classical.byContradiction fun h=>(of_eq_false hyz) h
         subst hyz
         exact T6 hy hz heq
     · have f1:((i:Int) < (a.names.length:Int))=False:=eq_false (by omega)
       have hI:=Wh h3 (by omega) heq
       simp only [go_sem,AD,AA,AC,AB,KB_n,KB_x,Nat.reduceBEq,Nat.reduceAdd,Nat.reduceLT,Nat.reduceLeDiff,Nat.reduceEqDiff,reduceIte,Int.reduceEq,reduceCtorEq,g2,g3,g5,a2,List.length_map,f1]
       refine Bv (fun x e q=>∃ i:Nat,i+x=a.kids.length∧a.kids.take i=b.kids.take i∧q=q'∧e.get 2=.p s.nb 0∧e.get 3=.p (s.nb+1) 0∧e.get 6=.i .i64 (i:Nat)) ?_ a.kids.length _ _ ?_
       · clear g2 g3 g5 heq hix h f1 e i
         rintro x e q'' ⟨i,hix,heq,rfl,g2,g3,g6⟩
         by_cases h:i < a.kids.length
         · have f1:((i:Int) < (a.kids.length:Int))=True:=eq_true (by omega)
           obtain ⟨y,hy⟩:∃ y,a.kids[i]? = some y:=⟨_,List.getElem?_eq_getElem h⟩
           obtain ⟨z,hz⟩:∃ z,b.kids[i]? = some z:=⟨_,List.getElem?_eq_getElem (by omega)⟩
           have hy2:=ER hy
           have hz2:=ER hz
           have hym:=List.mem_of_getElem? hy
           have hzm:=List.mem_of_getElem? hz
           have hw1:=Ap (show i+1 < 2^63 by omega)
           obtain ⟨r,hr,hyz⟩:=ih y hym (ha.kids.1 y hym) z (hb.kids.1 z hzm) q'' H1.wf
           have hld:∀ y:ND,ldA q'' true 4 (.ep y.cells 0 .shut)=some (.agg y.cells):=fun _=>rfl
           have hnt:∀ y:ND,y.cells.all noTok=true:=fun _=>rfl
           cases r with
           | true =>
             have hyz:=hyz.1 rfl
             simp only [go_sem,AD,AA,AC,AB,KB_n,KB_x,Nat.reduceBEq,Nat.reduceAdd,Nat.reduceLT,Nat.reduceLeDiff,Nat.reduceEqDiff,reduceIte,Int.reduceEq,reduceCtorEq,g2,g3,g6,a3,b3,List.length_map,f1,AJ,hy2,hz2,hld,hnt,AR,hr,hw1,true_and]
             refine ⟨x - 1,by omega,i+1,by omega,?_,rfl⟩
             subst hyz
             exact T6 hy hz heq
           | false =>
             have hne:y≠z:=fun hh=>by have:=hyz.2 hh; cases this
             simp only [go_sem,AD,AA,AC,AB,KB_n,KB_x,Nat.reduceBEq,Nat.reduceAdd,Nat.reduceLT,Nat.reduceLeDiff,Nat.reduceEqDiff,reduceIte,Int.reduceEq,reduceCtorEq,g2,g3,g6,a3,b3,List.length_map,f1,AJ,hy2,hz2,hld,hnt,AR,hr,true_and]
             exact finF (fun hh=>absurd (congrArg ND.kids hh) (Wi hy hz hne))
         · have f1:((i:Int) < (a.kids.length:Int))=False:=eq_false (by omega)
           simp only [go_sem,AD,AA,AC,AB,KB_n,KB_x,Nat.reduceBEq,Nat.reduceAdd,Nat.reduceLT,Nat.reduceLeDiff,Nat.reduceEqDiff,reduceIte,Int.reduceEq,reduceCtorEq,g2,g3,g6,a3,List.length_map,f1]
           exact finT (hall.2 ⟨h1,h2,hI,Wh h4 (by omega) heq⟩)
       · simp only [go_sem,AD,AA,AC,AB,KB_n,KB_x,Nat.reduceBEq,Nat.reduceAdd,Nat.reduceLT,Nat.reduceLeDiff,Nat.reduceEqDiff,reduceIte,Int.reduceEq,reduceCtorEq,g2,g3]
         exact ⟨0,by omega,by simp,rfl⟩
   · simp only [go_sem,AD,AA,AC,AB,KB_n,KB_x,Nat.reduceBEq,Nat.reduceAdd,Nat.reduceLT,Nat.reduceLeDiff,Nat.reduceEqDiff,reduceIte,Int.reduceEq,reduceCtorEq]
     exact ⟨0,by omega,by simp,rfl⟩
 · have hne:a≠b:=fun hh=>hcase (by subst hh; exact ⟨rfl,rfl,rfl,rfl⟩)
   rcases Classical.propComplete (a.kind≠b.kind) with p1 | p1<;>rcases Classical.propComplete (a.text≠b.text) with p2 | p2<;>rcases Classical.propComplete (a.names.length≠b.names.length) with p3 | p3<;>rcases Classical.propComplete (a.kids.length≠b.kids.length) with p4 | p4 <;>
    first
    | (exfalso; simp at p1 p2 p3 p4; exact hcase ⟨p1,p2,p3,p4⟩)
    | (simp only [BE,go_sem,AD,AA,AC,AB,KB_n,KB_x,Nat.reduceBEq,Nat.reduceAdd,Nat.reduceLT,Nat.reduceLeDiff,Nat.reduceEqDiff,reduceIte,Int.reduceEq,reduceCtorEq,Af,e0,e1,hq,a0,a1,a2,a3,b0,b1,b2,b3,List.length_map,eK,eI,eL,p1,p2,p3,p4]
       exact finF hne)

theorem YF (l : List FT) (ho:FOk l) (s:St) (hw:Wf s):∃ b:Bool,(lim prog).call Ai [fx l] s=some (.b b,s):=by
 obtain ⟨r, s',h,rfl,b,rfl⟩:=fn_G (f:=Ai) (args:=[fx l]) (s:=s) (Post:=fun r s'=>s'=s∧∃ b:Bool,r=.b b) D8 rfl rfl (by
  have hz0:wkZ BO.cin [fx l]=[fx l]:=by
   simp only [BO,wkZ,List.cons.injEq,and_true]
   exact IA .ws
  rw [hz0]
  simp only [BO,go_sem,AD,AA,AC,AB,KB_n,KB_x,Nat.reduceBEq,Nat.reduceAdd,Nat.reduceLT,Nat.reduceLeDiff,Nat.reduceEqDiff,reduceIte,Int.reduceEq,reduceCtorEq]
  refine Bv (fun x e q=>∃ i n:Nat,i+x=l.length∧q=s.enter∧n < 2^60∧e.get 0=fx l∧e.get 3=.i .i64 (n:Nat)∧e.get 4=.i .i64 (i:Nat)) ?_ l.length _ _ ?_
  · rintro x e q ⟨i,n,hix,rfl,hn,g0,g3,g4⟩
    have hfin:∀ b:Bool,KH s [.id] (fun r s'=>s'=s∧∃ b:Bool,r=.b b) (some ([.b b],s.enter)):=fun b=>⟨_,_,rfl,(Over.enter s).leave rfl,b,rfl⟩
    by_cases h:i < l.length
    · have h1 : ((i:Int) < (l.length:Int))=True:=eq_true (by omega)
      by_cases h5:n < 500
      · have h2:((n:Int) < 500)=True:=eq_true (by omega)
        obtain ⟨f,hf⟩:∃ f,l[i]? = some f:=⟨_,List.getElem?_eq_getElem h⟩
        have hfo:=ho.ok f (List.mem_of_getElem? hf)
        have hg:=N8 hf
        have hth:∀ u:St,He u (.ws false 6 (l.map FT.av))=some (.ws false 6 (l.map FT.av),u):=fun _=>rfl
        have l2:∀ u:St,ldA u false 1 (.ep f.cells 2 .shut)=some (tx f.names):=fun _=>rfl
        have l3:∀ u:St,ldA u false 1 (.ep f.cells 3 .shut)=some (zx f.kids):=fun _=>rfl
        have nl:=hfo.nlen
        have kl:=hfo.klen
        have w1:IntKind.i64.wrap ((n:Int)+1)=((n+1:Nat):Int):=Ap (by omega)
        have w2:IntKind.i64.wrap (((n+1:Nat):Int)+(f.names.length:Int))=((n+1+f.names.length:Nat):Int):=by
         rw [show (((n+1:Nat):Int)+(f.names.length:Int))=((n+1+f.names.length:Nat):Int) by omega]; exact CX (by omega)
        have w3:IntKind.i64.wrap (((n+1+f.names.length:Nat):Int)+(f.kids.length:Int))=((n+1+f.names.length+f.kids.length:Nat):Int):=by
         rw [show (((n+1+f.names.length:Nat):Int)+(f.kids.length:Int))=((n+1+f.names.length+f.kids.length:Nat):Int) by omega]; exact CX (by omega)
        have w4:=Ap (show i+1 < 2^63 by have:=ho.len; omega)
        simp only [go_sem,AD,AA,AC,AB,KB_n,KB_x,Nat.reduceBEq,Nat.reduceAdd,Nat.reduceLT,Nat.reduceLeDiff,Nat.reduceEqDiff,reduceIte,Int.reduceEq,reduceCtorEq,g0,g3,g4,fx,List.length_map,h1,h2,hth,AJ,hg,Cn,Nat.zero_add,l2,l3,tx,zx,w1,w2,w3]
        refine Bv (fun y e q=>∃ k m:Nat,k+y=f.names.length∧q=s.enter∧m < 2^60∧e.get 0=fx l∧e.get 3=.i .i64 (m:Nat)∧e.get 4=.i .i64 (i:Nat)∧e.get 5=.i .i64 (k:Nat)) ?_ f.names.length _ _ ?_
        · rintro y e q ⟨k,m,hky,rfl,hm,g0,g3,g4,g5⟩
          by_cases hk:k < f.names.length
          · have k1:((k:Int) < (f.names.length:Int))=True:=eq_true (by omega)
            by_cases h6:m < 500
            · have k2:((m:Int) < 500)=True:=eq_true (by omega)
              obtain ⟨nm,hnm⟩:∃ nm,f.names[k]? = some nm:=⟨_,List.getElem?_eq_getElem hk⟩
              have hnm2:(f.names.map AV.s)[k]? = some (.s nm):=by rw [List.getElem?_map,hnm]; rfl
              have hnl:=(hfo.names nm (List.mem_of_getElem? hnm)).2
              have hq:=YP nm.length hnl
              have w5:IntKind.i64.wrap ((m:Int)+((nm.length / 64:Nat):Int))=((m+nm.length / 64:Nat):Int):=by
               rw [show ((m:Int)+((nm.length / 64:Nat):Int))=((m+nm.length / 64:Nat):Int) by omega]; exact CX (by omega)
              have w6:=Ap (show k+1 < 2^63 by omega)
              simp only [go_sem,AD,AA,AC,AB,KB_n,KB_x,Nat.reduceBEq,Nat.reduceAdd,Nat.reduceLT,Nat.reduceLeDiff,Nat.reduceEqDiff,reduceIte,Int.reduceEq,reduceCtorEq,g0,g3,g4,g5,fx,List.length_map,k1,k2,hth,AJ,hg,Cn,Nat.zero_add,l2,tx,hnm2,BZ,C7,hq,w5,w6]
              exact ⟨y - 1,by omega,k+1,m+nm.length / 64,by omega,by omega,rfl,rfl⟩
            · have k2:((m:Int) < 500)=False:=eq_false (by omega)
              simp only [go_sem,AD,AA,AC,AB,KB_n,KB_x,Nat.reduceBEq,Nat.reduceAdd,Nat.reduceLT,Nat.reduceLeDiff,Nat.reduceEqDiff,reduceIte,Int.reduceEq,reduceCtorEq,g0,g3,g4,g5,fx,List.length_map,k1,k2,hth,AJ,hg,Cn,Nat.zero_add,l2,tx,w4]
              exact ⟨x - 1,by omega,i+1,m,by omega,by omega,rfl,rfl⟩
          · have k1:((k:Int) < (f.names.length:Int))=False:=eq_false (by omega)
            simp only [go_sem,AD,AA,AC,AB,KB_n,KB_x,Nat.reduceBEq,Nat.reduceAdd,Nat.reduceLT,Nat.reduceLeDiff,Nat.reduceEqDiff,reduceIte,Int.reduceEq,reduceCtorEq,g0,g3,g4,g5,fx,List.length_map,k1,hth,AJ,hg,Cn,Nat.zero_add,l2,tx,w4]
            exact ⟨x - 1,by omega,i+1,m,by omega,by omega,rfl,rfl⟩
        · simp only [go_sem,AD,AA,AC,AB,KB_n,KB_x,Nat.reduceBEq,Nat.reduceAdd,Nat.reduceLT,Nat.reduceLeDiff,Nat.reduceEqDiff,reduceIte,Int.reduceEq,reduceCtorEq,g4]
          exact ⟨0,_,by omega,by omega,rfl,rfl,rfl⟩
      · have h2:((n:Int) < 500)=False:=eq_false (by omega)
        simp only [go_sem,AD,AA,AC,AB,KB_n,KB_x,Nat.reduceBEq,Nat.reduceAdd,Nat.reduceLT,Nat.reduceLeDiff,Nat.reduceEqDiff,reduceIte,Int.reduceEq,reduceCtorEq,g0,g3,g4,fx,List.length_map,h1,h2]
        exact hfin _
    · have h1:((i:Int) < (l.length:Int))=False:=eq_false (by omega)
      simp only [go_sem,AD,AA,AC,AB,KB_n,KB_x,Nat.reduceBEq,Nat.reduceAdd,Nat.reduceLT,Nat.reduceLeDiff,Nat.reduceEqDiff,reduceIte,Int.reduceEq,reduceCtorEq,g0,g3,g4,fx,List.length_map,h1]
      exact hfin _
  · simp only [go_sem,AD,AA,AC,AB,KB_n,KB_x,Nat.reduceBEq,Nat.reduceAdd,Nat.reduceLT,Nat.reduceLeDiff,Nat.reduceEqDiff,reduceIte,Int.reduceEq,reduceCtorEq]
    exact ⟨0,0,by omega,by omega,rfl,rfl⟩)
 exact ⟨b,h⟩
theorem TP:∀ l:List ND,(∀ k∈l,DH k.cells k.cells=true)→DH (l.map ND.av) (l.map ND.av)=true
 | [],_=>rfl
 | k::l,h=>by
   simp only [List.map_cons,DH,ND.av_eq,beqA,h k List.mem_cons_self,Bool.true_and]
   have:=TP l fun x hx=>h x (List.mem_cons_of_mem _ hx)
   simpa only [ND.av_eq] using this
theorem PE:∀ n:ND,DH n.cells n.cells=true:=by
 refine ND.ind fun n ih=>?_
 simp [ND.cells,tx,DH,beqA,Jb,HD,TP n.kids ih]
theorem TQ (n:ND):still (.agg n.cells)=true:=by
 have h1:n.cells.all noTok=true:=rfl
 simp only [still,h1,AR,PE,Bool.and_self]
end Go.Proofs.Ytgloinighjdhlaa

namespace Go.Proofs.Ytgloinighjdhlaa
open Go.Proofs.Ytgloinighjdhlaa.Am
noncomputable def dlC (cs:List CT) (f:Nat):Fun:={ cin:=[],cout:=[],ntmps:=0,keep:=false,res:=[],body:=.bad,prim:=some (delegP prog cs f) }
noncomputable def dl (f:Nat):Fun:=dlC [] f
noncomputable def dlH:Fun:=dlC CB.cin BG
noncomputable def Ba (n:Nat):Option Fun :=
 if n=BF then some AE else
 if n=EL then some Cx else
 if n=Dk then some A3 else
 if n=Ar then some AN else
 if n=AO then some AG else
 if n=Al then some (dl Al) else
 if n=Ai then some (dl Ai) else
 if n=AX then some (dl AX) else
 if n=Ae then some (dl Ae) else
 if n=Aa then some (dl Aa) else
 if n=DK then some (dl DK) else
 if n=BG then some dlH else
 if n=Ch then some (dl Ch) else none
theorem p2_law:Ba BF=some AE:=rfl
theorem p2_All:Ba EL=some Cx:=rfl
theorem p2_add:Ba Dk=some A3:=rfl
theorem YR:Ba Ar=some AN:=rfl
theorem Qd:Ba AO=some AG:=rfl
theorem Vz:Ba Al=some (dl Al):=rfl
theorem YS:Ba Ai=some (dl Ai):=rfl
theorem T7:Ba AX=some (dl AX):=rfl
theorem YT:Ba Ae=some (dl Ae):=rfl
theorem V0:Ba Aa=some (dl Aa):=rfl
theorem p2_May:Ba DK=some (dl DK):=rfl
theorem V3:Ba BG=some dlH:=rfl
theorem YU:Ba Ch=some (dl Ch):=rfl
/-! ### What is told -/
theorem HM {α:Type} (f:α→AV):∀ l:List α,(∀ x∈l,Cl (f x)=some (f x))→EB (l.map f)=some (l.map f)
 | [],_=>rfl
 | x::l,h=>by
   rw [List.map_cons,EB,h x (by simp),HM f l fun y hy=>h y (by simp [hy])]
theorem F8 {α:Type} (f:α→AV) (n:Nat):∀ l:List α,(∀ x∈l,(f x).cells.length=n∧ones (f x).cells=true)→Ac n (l.map f)=true
 | [],_=>rfl
 | x::l,h=>by
   rw [List.map_cons,Ac,F8 f n l fun y hy=>h y (by simp [hy])]
   obtain ⟨h1,h2⟩:=h x (by simp)
   simp [h1,h2]
theorem T8 (L:List (List Nat)):Cl (tx L)=some (tx L):=by
 have h1:=HM AV.s L fun _ _=>rfl
 have h2:=F8 AV.s 1 L fun _ _=>⟨rfl,rfl⟩
 simp only [tx,Cl,h1,h2,if_true]
theorem YV (L:List Int):Cl (zx L)=some (zx L):=by
 have h1:=HM iv L fun _ _=>rfl
 have h2:=F8 iv 1 L fun _ _=>⟨rfl,rfl⟩
 simp only [zx,Cl,h1,h2,if_true]
theorem C9 {a b:AV} {l l':List AV} (h:Cl a=some b) (hl:EB l=some l'):EB (a::l)=some (b::l'):=by rw [EB,h,hl]
theorem Qe {l l':List AV} (h:EB l=some l'):Cl (.agg l)=some (.agg l'):=by rw [Cl,h]
theorem YW (f:FT):Cl f.av=some f.av :=
 Qe (C9 rfl (C9 rfl (C9 (T8 f.names) (C9 (YV f.kids) (C9 rfl (C9 rfl rfl))))))
theorem NE (l:List FT):Cl (fx l)=some (fx l):=by
 have h1:=HM FT.av l fun f _=>YW f
 have h2:=F8 FT.av 6 l fun _ _=>⟨rfl,rfl⟩
 simp only [fx,Cl,h1,h2,if_true]
theorem YX:∀ n:ND,Cl n.av=some n.av:=by
 refine ND.ind fun n ih=>?_
 have h0:=T8 n.names
 have h1:=HM ND.av n.kids ih
 have h2:=F8 ND.av 4 n.kids fun k _=>by rw [ND.av_eq]; exact ⟨rfl,rfl⟩
 rw [ND.av_eq]
 refine Qe (C9 rfl (C9 rfl (C9 h0 (C9 ?_ rfl))))
 simp only [Cl,h1,h2,if_true]
theorem HN (n:ND):Cl (.agg n.cells)=some (.agg n.cells):=by rw [← ND.av_eq]; exact YX n
theorem V4 (n:ND) (s:St):frz s (.agg n.cells)=some (.agg n.cells,s):=rfl
def cF:CT:=.sl 6 (.agg [.id,.id,.sl 1 .id,.sl 1 .id,.id,.id])
def RV (s:St) (a:AV) (l:List FT):Prop:=∃ a1 s1,frz s a=some (a1,s1)∧Cl (wk cF a1)=some (fx l)
theorem KZ (l:List FT) (s:St):RV s (fx l) l:=⟨fx l,s,rfl,NE l⟩
theorem wf0:Wf s0:=⟨rfl,rfl⟩
/-! ### Functions that are told -/
theorem Jh {s:St} {a:AV} {l:List FT} {b:ND} (ha:RV s a l) (ho:FOk l) (hb:b.Ok) (hn:nodesN b < 2^62):(lim Ba).call BG [a,.agg b.cells] s=some (.b (C6 l b),s):=by
 obtain ⟨a1,s1,h1,h2⟩:=ha
 rw [C8 V3 rfl]
 have hw:wkZ CB.cin [a1,.agg b.cells]=[wk cF a1,.agg b.cells]:=by
  simp [CB,wkZ,wk,ND.cells,cF]
 exact Hn (a1:=[a1,.agg b.cells]) (a2:=[fx l,.agg b.cells]) (s1:=s1) (by simp only [frzL,h1,V4]) (by rw [hw]; simp only [EB,h2,HN]) (holds_ok l ho b hb hn s0 wf0)
theorem d_may {s:St} (l:List FT) (ho:FOk l):(lim Ba).call DK [fx l] s=some (.b (mayP l),s):=by
 rw [C8 p2_May rfl]
 exact Hn (a1:=[fx l]) (a2:=[fx l]) (s1:=s) rfl (by simp only [wkZ,EB,NE]) (TF l ho.ok ho.len ho.fl s0 wf0)
theorem d_fmay {s:St} {b:ND} (hb:b.Ok) (hn:nodesN b < 2^62):(lim Ba).call Ch [.agg b.cells] s=some (.b (mayN b),s):=by
 rw [C8 YU rfl]
 exact Hn (a1:=[.agg b.cells]) (a2:=[.agg b.cells]) (s1:=s) rfl (by simp only [wkZ,EB,HN]) (TU b hb hn s0 wf0)
theorem Wj {s:St} {b:ND} (hb:b.Ok) (hn:nodesN b < 2^62):(lim Ba).call Ae [.agg b.cells] s=some (.b (mayN b),s):=by
 rw [C8 YT rfl]
 exact Hn (a1:=[.agg b.cells]) (a2:=[.agg b.cells]) (s1:=s) rfl (by simp only [wkZ,EB,HN]) (RQ b hb hn s0 wf0)
theorem YY {s:St} {a b:ND} (ha:a.Ok) (hb:b.Ok):∃ r,(lim Ba).call Aa [.agg a.cells,.agg b.cells] s=some (.b r,s)∧(r=true↔a=b):=by
 obtain ⟨r,h1,h2⟩:=PV a ha b hb s0 wf0
 refine ⟨r,?_,h2⟩
 rw [C8 V0 rfl]
 exact Hn (a1:=[.agg a.cells,.agg b.cells]) (a2:=[.agg a.cells,.agg b.cells]) (s1:=s) rfl (by simp only [wkZ,EB,HN]) h1
theorem d_many {s:St} (l:List FT) (ho:FOk l):∃ r,(lim Ba).call Ai [fx l] s=some (.b r,s):=by
 obtain ⟨r,h⟩:=YF l ho s0 wf0
 refine ⟨r,?_⟩
 rw [C8 YS rfl]
 exact Hn (a1:=[fx l]) (a2:=[fx l]) (s1:=s) rfl (by simp only [wkZ,EB,NE]) h
theorem Qf {s:St} {b:ND} (hb:b.Ok) (hn:DQ b < 2^60):∃ r:Nat,(lim Ba).call AX [.agg b.cells] s=some (.i .i64 (r:Nat),s):=by
 obtain ⟨r,s',h,rfl,w,_,rfl⟩:=Tq b hb hn s0 wf0
 refine ⟨w,?_⟩
 rw [C8 T7 rfl]
 exact Wy (a1:=[.agg b.cells]) (a2:=[.agg b.cells]) (s1:=s) rfl (by simp only [wkZ,EB,HN]) h

attribute [local irreducible] W WO WE WQ WD Tr.get Tr.set
theorem MO:∀ {p:Option (List Nat)} {ns:List (List Nat)} {ks:List ND},ns.length=ks.length→DE p ns ks=true→∀ k∈ks,CH k=true
 | _,_,[],_,_=>by simp
 | _,[],_::_,h,_=>by simp at h
 | _,s::ns,k::ks,h,hw=>by
   simp only [DE,Bool.and_eq_true] at hw
   intro x hx
   rcases List.mem_cons.1 hx with rfl | hx
   · exact hw.2.2.1
   · exact MO (by simpa using h) hw.2.2.2 x hx
theorem RX {n:ND} (h:CH n=true):n.names.length=n.kids.length∧(∀ k∈n.kids,CH k=true)∧n.kind≠0:=by
 rw [Ey] at h
 by_cases c1:n.kind=1∨n.kind=3
 · rw [if_pos c1] at h
   simp only [Bool.and_eq_true,decide_eq_true_eq] at h
   have hk:n.kids=[]:=List.length_eq_zero_iff.1 h.2.1
   refine ⟨by rw [h.1,hk]; rfl,by rw [hk]; simp,by omega⟩
 · rw [if_neg c1] at h
   by_cases c2:n.kind=2
   · rw [if_pos c2] at h
     simp only [Bool.and_eq_true,decide_eq_true_eq] at h
     exact ⟨h.2.1,MO h.2.1 h.2.2,by omega⟩
   · rw [if_neg c2] at h; cases h
theorem bNl:∀ l:List ND,(∀ k∈l,beqA k.av k.av=true)→DH (l.map ND.av) (l.map ND.av)=true
 | [],_=>rfl
 | k::l,h=>by
   simp only [List.map_cons,DH,h k (by simp),bNl l fun x hx=>h x (by simp [hx]),Bool.and_self]
theorem bN1:∀ n:ND,beqA n.av n.av=true:=by
 refine ND.ind fun n ih=>?_
 rw [ND.av_eq]
 simp only [beqA,ND.cells,DH,tx,HD,Lw,bNl n.kids ih,decide_true,Bool.and_self,Nat.beq_refl,beq_self_eq_true]
theorem shutN (k:ND) (s:St):LY false s (.agg k.cells)=some (.agg k.cells,s):=rfl
theorem ldN (f:ND) (s:St):ldA s true 4 (.ep f.cells 0 .shut)=some (.agg f.cells):=rfl
theorem ntN (k:ND):k.cells.all noTok=true:=rfl
def Iz (n:ND):List Nat:=if n.kind=3 then [120] else []
theorem PW:∀ n:ND,n.Ok→CH n=true→∀ s,Wf s→(lim Ba).call Ar [.agg n.cells] s=some (.agg (bareN n).cells,s):=by
 refine ND.ind fun n ih ho hwn s hw=>?_
 obtain ⟨hlen,hkw,_⟩:=RX hwn
 refine fn_W YR rfl rfl ?_
 have H0:=(Hp.begin hw).new (.cells 47 n.cells)
 generalize hq:s.enter.new (.cells 47 n.cells)=q at H0
 generalize hm:s.enter.nb=m at H0
 have H1:=H0.new (.cells 47 [.i .u8 0,.s [],.nsl,.nsl])
 generalize hq1:q.new (.cells 47 [.i .u8 0,.s [],.nsl,.nsl])=q1 at H1
 generalize hm1:q.nb=m1 at H1
 have l1:=H1.ld 1 (off:=0) (v:=.i .u8 (n.kind:Nat)) rfl rfl
 have H2:=H1.new (.cells 47 [.i .u8 0,.s [],.nsl,.nsl])
 generalize hq2:q1.new (.cells 47 [.i .u8 0,.s [],.nsl,.nsl])=q2 at H2
 generalize hm2:q1.nb=m2 at H2
 obtain ⟨q3,d3,H3,_⟩:=H2.stw 0 (v:=.agg [.i .u8 (n.kind:Nat),.s [],.nsl,.nsl]) (m:=4) rfl rfl ⟨rfl,rfl⟩
 have l2:=H3.ld 2 (off:=0) (v:=.i .u8 (n.kind:Nat)) rfl rfl
 obtain ⟨q4,d4,H4,_⟩:=H3.st 0 (off:=1) (v:=.s [120]) rfl (show 1 < 4 by omega) ⟨rfl,rfl⟩
 have hz0:wkZ AN.cin [.agg n.cells]=[.agg n.cells]:=by simp [AN,wkZ,wk,ND.cells]
 have hnl:=ho.names.2
 have hkl:=ho.kids.2
 have hloop:∀ (e:Tr) (q:St),Hp s q s.en [] [(m2,.cells 47 [.i .u8 (n.kind:Nat),.s (Iz n),.nsl,.nsl]),(m1,.cells 47 [.i .u8 0,.s [],.nsl,.nsl]),(m,.cells 47 n.cells)]→e.get 1=.p m 0→e.get 2=.p m1 0→e.get 3=.p m2 0 →
     W (lim Ba) (subC AN.body [1,1,1]) e q (KF s AN.res AN.cout (.agg (bareN n).cells)):=by
  intro e q H g1 g2 g3
  clear hq hq1 hq2 H0 H1 H2 H3 H4 d3 d4 l1 l2 hm hm1 hm2 hz0
  simp only [AN,subC,go_sem,AD,AA,AC,AB,KB_n,KB_x,Nat.reduceBEq,Nat.reduceAdd,Nat.reduceLT,Nat.reduceLeDiff,Nat.reduceEqDiff,reduceIte,Int.reduceEq,reduceCtorEq]
  refine Bv (fun x e q=>∃ (i:Nat) (a b:AV),i+x=n.kids.length∧Hp s q s.en [⟨4,47,a,((n.kids.map bareN).take i).map ND.av,true⟩,⟨1,9,b,(n.names.take i).map .s,true⟩] [(m2,.cells 47 [.i .u8 (n.kind:Nat),.s (Iz n),b,a]),(m1,.cells 47 [.i .u8 0,.s [],.nsl,.nsl]),(m,.cells 47 n.cells)] ∧
   e.get 1=.p m 0∧e.get 2=.p m1 0∧e.get 3=.p m2 0∧e.get 4=.i .i64 (i:Nat)) ?_ n.kids.length _ _ ?_
  · clear g1 g2 g3 H q e
    rintro x e q' ⟨i,a,b,hi,H,g1,g2,g3,g4⟩
    have l5:=H.ld 2 (off:=3) (v:=.ws false 4 (n.kids.map ND.av)) rfl rfl
    by_cases h:i < n.kids.length
    · have e1:((i:Int) < (n.kids.length:Int))=True:=eq_true (by omega)
      have l4:=H.ld 2 (off:=2) (v:=tx n.names) rfl rfl
      obtain ⟨y,hy⟩:∃ y,n.names[i]? = some y:=⟨_,List.getElem?_eq_getElem (by omega)⟩
      obtain ⟨k,hk⟩:∃ k,n.kids[i]? = some k:=⟨_,List.getElem?_eq_getElem h⟩
      have hy2:(n.names.map AV.s)[i]? = some (.s y):=by rw [List.getElem?_map,hy]; rfl
      have hk2:=ER hk
      have hmem:k∈n.kids:=List.mem_of_getElem? hk
      have hkn:(n.kids.map bareN)[i]? = some (bareN k):=by rw [List.getElem?_map,hk]; rfl
      have l2:=H.ld 0 (off:=2) rfl rfl
      have r1:=H.rld 1 rfl
      obtain ⟨b',q6,d6,H6,_⟩:=H.app 1 (y:=.sl 1 [.s y] .full) (ys:=[.s y]) rfl (by simp [elems,St.ok]) (by simp; omega)
      obtain ⟨q7,d7,H7,_⟩:=H6.st 0 (off:=2) (v:=b') rfl (by simp) ⟨(H6.rcells 1 rfl).1,(H6.rcells 1 rfl).2.1⟩
      have l3:=H7.ld 0 (off:=3) rfl rfl
      have r0:=H7.rld 0 rfl
      have l5b:=H7.ld 2 (off:=3) (v:=.ws false 4 (n.kids.map ND.av)) rfl rfl
      have hc:=ih k hmem (ho.kids.1 k hmem) (hkw k hmem) q7 H7.wf
      have hst:=H7.still 0 rfl (bNl _ fun k _=>bN1 k)
      obtain ⟨a',q8,d8,H8,_⟩:=H7.app 0 (y:=.sl 4 [.agg (bareN k).cells] .full) (ys:=[.agg (bareN k).cells]) rfl (by simp [elems,St.ok]) (by simp [List.length_take]; omega)
      obtain ⟨q9,d9,H9,_⟩:=H8.st 0 (off:=3) (v:=a') rfl (by simp) ⟨(H8.rcells 0 rfl).1,(H8.rcells 0 rfl).2.1⟩
      have hw1:=Ap (show i+1 < 2^63 by omega)
      have alS:Ac 1 [AV.s y]=true:=rfl
      simp only [go_sem,AD,AA,AC,AB,KB_n,KB_x,Nat.reduceBEq,Nat.reduceAdd,Nat.reduceLT,Nat.reduceLeDiff,Nat.reduceEqDiff,reduceIte,Int.reduceEq,reduceCtorEq,g1,g2,g3,g4,l5,e1,List.length_map,AJ,l2,l4,r1,hy2,BZ,C7,alS,S8,d6,d7,Nat.zero_add]
      refine QM rfl ?_
      simp only [go_sem,AD,AA,AC,AB,KB_n,KB_x,Nat.reduceBEq,Nat.reduceAdd,Nat.reduceLT,Nat.reduceLeDiff,Nat.reduceEqDiff,reduceIte,Int.reduceEq,reduceCtorEq,g1,g2,g3,g4,l3,l5b,List.length_map,AJ,hk2,r0,ldN,AR,ntN,hc,shutN,al4,le14,d8,d9,Nat.zero_add]
      refine X6 rfl ?_ hst ⟨⟨_,rfl,l3⟩,⟨_,rfl,l3⟩,⟨_,rfl,l3⟩,⟨_,rfl,l3⟩,⟨_,rfl,l3⟩,⟨_,rfl,l3⟩,⟨_,rfl,l3⟩,⟨_,rfl,l3⟩,⟨_,rfl,l3⟩,trivial⟩ (QN ?_)
      · simp only [go_sem,AD,AA,AC,AB,KB_n,KB_x,Nat.reduceBEq,Nat.reduceAdd,Nat.reduceLT,Nat.reduceLeDiff,Nat.reduceEqDiff,reduceIte,Int.reduceEq,reduceCtorEq,g3]
      simp only [go_sem,AD,AA,AC,AB,KB_n,KB_x,Nat.reduceBEq,Nat.reduceAdd,Nat.reduceLT,Nat.reduceLeDiff,Nat.reduceEqDiff,reduceIte,Int.reduceEq,reduceCtorEq,g4,hw1]
      refine ⟨x - 1,by omega,i+1,a',b',by omega,?_,g1,g2,g3,rfl⟩
      have ht1:((n.kids.map bareN).take (i+1)).map ND.av=((n.kids.map bareN).take i).map ND.av++[.agg (bareN k).cells]:=by
       rw [List.take_add_one,hkn]; simp [ND.av_eq]
      have ht2:(n.names.take (i+1)).map AV.s=(n.names.take i).map AV.s++[.s y]:=by
       rw [List.take_add_one,hy]; simp
      rw [ht1,ht2]
      exact H9
    · have e1:((i:Int) < (n.kids.length:Int))=False:=eq_false (by omega)
      obtain rfl:i=n.kids.length:=by omega
      have l6:ldA q' true 4 (.p m2 0)=some (.agg [.i .u8 (n.kind:Nat),.s (Iz n),b,a]):=H.ldw 0 (m:=4) rfl rfl
      obtain ⟨b',q5,d5,t5,H5,_⟩:=H.pub 1 rfl
      obtain ⟨a',q6,d6,t6,H6,_⟩:=H5.pub 0 rfl
      obtain ⟨q7,d7,H7,_⟩:=H6.stw 1 (v:=.agg [.i .u8 (n.kind:Nat),.s (Iz n),b',a']) (m:=4) rfl rfl ⟨rfl,by simp only [Cn,Am.ones,t5.ones,t6.ones]⟩
      have l7:=H7.ldw 1 (m:=4) rfl rfl
      have hT1:(n.kids.map bareN).take n.kids.length=n.kids.map bareN:=List.take_of_length_le (by rw [List.length_map]; exact Nat.le_refl _)
      have hT2:n.names.take n.kids.length=n.names:=List.take_of_length_le (by omega)
      rw [hT1] at t6
      rw [hT2] at t5
      simp only [go_sem,AD,AA,AC,AB,KB_n,KB_x,Nat.reduceBEq,Nat.reduceAdd,Nat.reduceLT,Nat.reduceLeDiff,Nat.reduceEqDiff,reduceIte,Int.reduceEq,reduceCtorEq,g1,g2,g3,g4,l5,e1,List.length_map,l6,d5,d6,d7,l7,t5.frz,t6.frz,Nat.zero_add]
      refine AQ H7.over ?_ ?_
      · simp only [Bt,AV.refs,AV.refs.go,t5.refs (EU _),t6.refs (QY _),Bool.or_self]
      · have hc:∀ (c:CT),∀ k∈n.kids.map bareN,wk (.agg [.id,.id,.sl 1 .id,.sl 4 c]) k.av=k.av:=fun c k _=>by
         rw [ND.av_eq]; simp [wk,wkZ,ND.cells]
        simp only [Bt,wkZ,wk,t5.wk (Lb _),t6.wk (Wb _ _ (hc _))]
        rw [Ff]
        rfl
  · simp only [go_sem,AD,AA,AC,AB,KB_n,KB_x,Nat.reduceBEq,Nat.reduceAdd,Nat.reduceLT,Nat.reduceLeDiff,Nat.reduceEqDiff,reduceIte,Int.reduceEq,reduceCtorEq]
    exact ⟨0,.nsl,.nsl,by omega,(H.addFull 1 9 true .nil).addFull 4 47 true .nil,g1,g2,g3,rfl⟩
 rw [hz0]
 show W (lim Ba) (.seq (subC AN.body [0]) (.seq (subC AN.body [1,0]) (.seq (subC AN.body [1,1,0]) (subC AN.body [1,1,1])))) _ _ _
 refine Ea (fun e q=>q=q1∧e.get 1=.p m 0∧e.get 2=.p m1 0) ?_ ?_
 · simp only [AN,subC,go_sem,AD,AA,AC,AB,KB_n,KB_x,Nat.reduceBEq,Nat.reduceAdd,Nat.reduceLT,Nat.reduceLeDiff,Nat.reduceEqDiff,reduceIte,Int.reduceEq,reduceCtorEq,Af,hq,hm,hq1,hm1]
 rintro e q ⟨rfl,g1,g2⟩
 refine Ea (fun e q=>q=q3∧e.get 1=.p m 0∧e.get 2=.p m1 0∧e.get 3=.p m2 0) ?_ ?_
 · simp only [AN,subC,go_sem,AD,AA,AC,AB,KB_n,KB_x,Nat.reduceBEq,Nat.reduceAdd,Nat.reduceLT,Nat.reduceLeDiff,Nat.reduceEqDiff,reduceIte,Int.reduceEq,reduceCtorEq,g1,g2,l1,hq2,hm2,d3]
 clear g1 g2 e
 rintro e q ⟨rfl,g1,g2,g3⟩
 refine Ea (fun e q=>Hp s q s.en [] [(m2,.cells 47 [.i .u8 (n.kind:Nat),.s (Iz n),.nsl,.nsl]),(m1,.cells 47 [.i .u8 0,.s [],.nsl,.nsl]),(m,.cells 47 n.cells)]∧e.get 1=.p m 0∧e.get 2=.p m1 0∧e.get 3=.p m2 0) ?_ fun e q h=>hloop e q h.1 h.2.1 h.2.2.1 h.2.2.2
 have eb:((n.kind:Int)=3)=(n.kind=3):=propext (by omega)
 rcases Classical.propComplete (n.kind=3) with h3 | h3
 · simp only [AN,subC,go_sem,AD,AA,AC,AB,KB_n,KB_x,Nat.reduceBEq,Nat.reduceAdd,Nat.reduceLT,Nat.reduceLeDiff,Nat.reduceEqDiff,reduceIte,Int.reduceEq,reduceCtorEq,g1,g2,g3,l2,eb,h3,d4]
   rw [show Iz n=[120] by simp [Iz,h3]]
   exact H4
 · simp only [AN,subC,go_sem,AD,AA,AC,AB,KB_n,KB_x,Nat.reduceBEq,Nat.reduceAdd,Nat.reduceLT,Nat.reduceLeDiff,Nat.reduceEqDiff,reduceIte,Int.reduceEq,reduceCtorEq,g1,g2,g3,l2,eb,h3]
   rw [show Iz n=[] by simp [Iz,h3]]
   exact H3
end Go.Proofs.Ytgloinighjdhlaa

namespace Go.Proofs.Ytgloinighjdhlaa
open Go.Proofs.Ytgloinighjdhlaa.Am
section
variable {s0 s q:St} {n:En} {R R':List RA} {B B':List (Nat×Box)}
theorem Qg {α:Type} {P:α→α→Prop} (hs:∀ x y,P x y→P y x) {l:List α} (h:l.Pairwise P) {i j:Nat} {x y:α} (hne:i≠j) (hx:l[i]? = some x) (hy:l[j]? = some y):P x y:=by
 rw [List.pairwise_iff_getElem] at h
 obtain ⟨h1,rfl⟩:=List.getElem?_eq_some_iff.1 hx
 obtain ⟨h2,rfl⟩:=List.getElem?_eq_some_iff.1 hy
 rcases Nat.lt_or_gt_of_ne hne with hl | hl
 · exact h i j h1 h2 hl
 · exact hs _ _ (h j i h2 h1 hl)
theorem T9 {α:Type} {P:α→α→Prop} {l:List α} (h:∀ {i j:Nat} {x y:α},i≠j→l[i]? = some x→l[j]? = some y→P x y):l.Pairwise P:=by
 rw [List.pairwise_iff_getElem]
 intro i j hi hj hl
 exact h (by omega) (List.getElem?_eq_getElem hi) (List.getElem?_eq_getElem hj)
theorem _root_.Go.Proofs.Ytgloinighjdhlaa.Am.Hp.perm (H:Hp s0 s n R B) (hR:R.Perm R') (hB:B.Perm B'):Hp s0 s n R' B' where
 wf:=H.wf
 over:=H.over
 lo:=H.lo
 nb:=H.nb
 nt:=H.nt
 rows:=fun {i r} hr=>by
  have hm:=hR.symm.subset (List.mem_of_getElem? hr)
  obtain ⟨j,hj,rfl⟩:=List.mem_iff_getElem.1 hm
  exact H.rows (List.getElem?_eq_getElem hj)
 apart:=fun {i j r r' k} hne h1 h2 hk=>by
  have hp:R.Pairwise (fun r r'=>∀ k,Av r.a=some k→Av r'.a≠some k):=T9 fun hne h1 h2 k hk=>H.apart hne h1 h2 hk
  have hs:∀ (r r':RA),(∀ k,Av r.a=some k→Av r'.a≠some k)→(∀ k,Av r'.a=some k→Av r.a≠some k):=fun r r' h k h1 h2=>h k h2 h1
  exact Qg hs (hR.pairwise hp fun {x y} h=>hs x y h) hne h1 h2 k hk
 box:=fun {i p} hp=>by
  have hm:=hB.symm.subset (List.mem_of_getElem? hp)
  obtain ⟨j,hj,rfl⟩:=List.mem_iff_getElem.1 hm
  exact H.box (List.getElem?_eq_getElem hj)
 bapart:=fun {i j p q} hne h1 h2=>by
  have hp:B.Pairwise (fun p q=>p.1≠q.1):=T9 fun hne h1 h2=>H.bapart hne h1 h2
  exact Qg (P:=fun p q:Nat×Box=>p.1≠q.1) (fun p q h e=>h e.symm) (hB.pairwise hp fun {x y} h e=>h e.symm) hne h1 h2
theorem _root_.Go.Proofs.Ytgloinighjdhlaa.Am.Hp.back {R0:List RA} {B0:List (Nat×Box)} (H0:Hp s0 s n R0 B0) (H:Hp s0 q s.en R B):Hp s0 { q with lo:=min s.lo q.lo } n R B where
 wf:=H.wf.lo _
 over:=H.over.setLo (by have:=H0.over.lo; have:=H.over.lo; omega)
 lo:=by have:=H0.lo; simp only; omega
 nb:=by have h1:=H0.nb; have h2:=H.nb; simp only [St.en] at h2 ⊢; omega
 nt:=by have h1:=H0.nt; have h2:=H.nt; simp only [St.en] at h2 ⊢; omega
 rows:=fun h=>(H.rows h).mono (Nat.le_refl _) fun _ _=>rfl
 apart:=H.apart
 box:=H.box
 bapart:=H.bapart
theorem UA:∀ {a b:List AV},ones a=true→ones b=true→ones (a++b)=true
 | [],_,_,h=>h
 | x::a,b,h,k=>by
   cases x<;>first | (simp [ones] at h; done) | exact UA (a:=a) (by simpa only [ones] using h) k
theorem UB {es:Nat}:∀ {xs:List AV},(∀ x∈xs,x.cells.length=es∧ones x.cells=true)→(BX xs).length=xs.length*es∧ones (BX xs)=true
 | [],_=>by simp [BX,ones]
 | x::xs,h=>by
   obtain ⟨h1,h2⟩:=UB (xs:=xs) fun y hy=>h y (by simp [hy])
   obtain ⟨h3,h4⟩:=h x (by simp)
   simp only [BX]
   refine ⟨by rw [List.length_append,h1,h3,List.length_cons,Nat.add_mul]; omega,?_⟩
   exact UA h4 h2
theorem _root_.Go.Proofs.Ytgloinighjdhlaa.Am.Hp.unth {id es T:Nat} {xs:List AV} (H:Hp s0 q n R ((id,.row T (BX xs) false 0)::B)) (hes:1≤es) (hx:∀ x∈xs,x.cells.length=es∧ones x.cells=true) (hch:FD es xs.length (BX xs)=xs) (z:Nat) :
    Rs q es T (.bl id es 0 xs.length (z,false))=some (.sl es xs (.tok q.nt 0),(q.setBox id .used).newTok xs.length (some T))∧Hp s0 ((q.setBox id .used).newTok xs.length (some T)) n (⟨es,T,.sl es xs (.tok q.nt 0),xs,true⟩::R) B:=by
 obtain ⟨h1,h2⟩:=UB hx
 have hb:=(H.box (i:=0) rfl).1
 simp only at hb
 have H2:=((H.setBox (i:=0) rfl .used).newTok es T xs)
 refine ⟨?_,H2.dropB⟩
 have ht:(BX xs).take (xs.length*es)=BX xs:=List.take_of_length_le (by omega)
 simp only [Rs,hb]
 rw [if_pos (by simp; omega),ht,if_pos ⟨trivial,by omega,h2⟩,hch]
theorem _root_.Go.Proofs.Ytgloinighjdhlaa.Am.Hp.appU {id es T:Nat} {xs ys:List AV} {y:AV} (H:Hp s0 q n R ((id,.row T (BX xs) false 0)::B)) (hes:1≤es) (hx:∀ x∈xs,x.cells.length=es∧ones x.cells=true) (hch:FD es xs.length (BX xs)=xs)
    (hy:∀ q,elems q es y=some ys) (hne:ys≠[]) (hsz:(xs.length+ys.length)*es < 2^38) :
    ∃ a q',orU (appA q es T (.bl id es 0 xs.length (xs.length*es,false)) y) q es T (.bl id es 0 xs.length (xs.length*es,false)) y=some (a,q')∧Hp s0 q' n (⟨es,T,a,xs++ys,true⟩::R) B∧Av a≠none:=by
 obtain ⟨hu,H2⟩:=H.unth hes hx hch (xs.length*es)
 obtain ⟨a',q',d',H3,_,h4⟩:=H2.app 0 rfl (hy _) hsz
 refine ⟨a',q',?_,H3,(h4 hne).1⟩
 have happ:appA q es T (.bl id es 0 xs.length (xs.length*es,false)) y=none:=by
  cases ys with
  | nil=>exact absurd rfl hne
  | cons y0 yl =>
    simp only [appA,hy q]
    have:1*es≤(yl.length+1)*es:=Nat.mul_le_mul_right _ (by omega)
    rw [if_neg (by simp),if_neg (by simp only [List.length_cons,Nat.add_mul,Nat.zero_add] at this ⊢; omega)]
 rw [happ,Pq]
 simp only [Me,hu]
 exact d'
theorem _root_.Go.Proofs.Ytgloinighjdhlaa.Am.Hp.stR (H:Hp s0 s n R B) (i:Nat) {id T off:Nat} {cs:List AV} {v:AV} (h:B[i]? = some (id,.row T cs false 0)) (hoff:off < cs.length) (hv:v.cells=[v]∧ones [v]=true) :
    ∃ s',stA s 1 (.p id off) v=some s'∧Hp s0 s' n R (B.set i (id,.row T (cs.set off v) false 0)):=by
 have hb:(B.set i (id,Box.row T (cs.set off v) false 0))[i]? = some (id,.row T (cs.set off v) false 0):=by
  rw [List.getElem?_set,if_pos rfl,if_pos (by rw [List.getElem?_eq_some_iff] at h; exact h.1)]
 obtain ⟨h1,h2,h3⟩:=(H.setBox h (.row T (cs.set off v) false 0)).esc hb v
 refine ⟨_,?_,h1⟩
 have hbx:=(H.box h).1
 simp only at hbx
 have:Am.overR cs off [v] 0=some (cs.set off v):=by
  unfold Am.overR
  rw [if_pos ⟨by omega,by simp; omega⟩,List.set_eq_take_append_cons_drop,if_pos hoff]; rfl
 simp only [stA,hbx,hv.1,hv.2,List.length_cons,List.length_nil,Nat.zero_add,and_self,if_true,this]
theorem _root_.Go.Proofs.Ytgloinighjdhlaa.Am.Hp.ldR (H:Hp s0 s n R B) (i:Nat) {id T off:Nat} {cs:List AV} {v:AV} (h:B[i]? = some (id,.row T cs false 0)) (hc:cs[off]? = some v):ldA s false 1 (.p id off)=some v:=by
 have hbx:=(H.box h).1
 simp only at hbx
 simp only [ldA,St.cells?,hbx,cut]
 have:(cs.drop off).take 1=[v]:=by
  rw [List.take_one,List.head?_drop,hc]; rfl
 simp [this,scal]
end
/-! ### slices.Clone over the law's own program -/
theorem RY (s:St):(lim Ba).call AO [tx []] s=some (.ws true 1 [],{ s with lo:=min s.lo s.nb }):=by
 rw [GJ]
 unfold Gk
 rw [Qd]
 have h1:wkZ AG.cin [tx []]=[.ws false 1 []]:=by
  simp [AG,wkZ,wk,wkM]
 have h2:both AG [.ws false 1 []]=some (.ws true 1 []):=by rfl
 have h3:Nat.ble [tx []].length AG.ntmps=true:=rfl
 have h4:AG.prim=none:=rfl
 simp only [h4,h3,h1,h2]
theorem PX (x:List Nat) (L:List (List Nat)) (hL:(x::L).length < 2^38) (s:St) :
    (lim Ba).call AO [tx (x::L)] s=some (.sl 1 ((x::L).map .s) (.tok s.nt 0),{ s.newTok (x::L).length (some 9) with lo:=min s.lo s.nb }):=by
 have h1:wkZ AG.cin [tx (x::L)]=[tx (x::L)]:=by
  have:=(R7 (x::L)).wk
  simp only [AG,wkZ,this]
 obtain ⟨r,s',hc,rfl,rfl⟩:=fn_K (t:=2) (s:=s) (args:=[tx (x::L)]) (Post:=fun r s'=>r=.sl 1 ((x::L).map .s) (.tok s.nt 0)∧s'={ s.newTok (x::L).length (some 9) with lo:=min s.lo s.nb }) Qd rfl rfl rfl (by rw [h1]; rfl) (by
  rw [h1]
  have heq:eqS (tx (x::L)) .nsl=some false:=rfl
  have ha:appA s.enter 1 9 (.sl 1 [] .full) (tx (x::L))=some (.sl 1 ((x::L).map .s) (.tok s.nt 0),s.enter.newTok (x::L).length (some 9)):=by
   simp only [tx,List.map_cons,appA,elems,if_true,List.nil_append,List.length_nil,Nat.zero_add,true_and]
   rw [if_pos (by simpa using hL)]
   simp [St.enter]
  have hal:Ac 1 []=true:=rfl
  simp only [AG,go_sem,Ag,AL,AK,AM,Ad,KB_n,KB_x,Nat.reduceBEq,Nat.reduceAdd,Nat.reduceLT,Nat.reduceLeDiff,Nat.reduceEqDiff,reduceIte,Int.reduceEq,reduceCtorEq,heq,hal,S8,ha,KK_n,KK_r]
  rfl)
 exact hc
theorem UC {s0 s:St} {n:En} {R:List RA} {B:List (Nat×Box)} (H:Hp s0 s n R B) (L:List (List Nat)) (hL:L.length < 2^38) :
    ∃ r s',(lim Ba).call AO [tx L] s=some (r,s')∧Hp s0 s' n (⟨1,9,r,L.map .s,true⟩::R) B∧s'.nb=s.nb:=by
 have hlo:=H.lo
 have h1:=H.over.lo
 have h2:=H.over.nb
 cases L with
 | nil =>
   refine ⟨_,_,RY s,?_,rfl⟩
   exact (H.setLo (m:=min s.lo s.nb) (by omega) (by omega)).addFull 1 9 true .ws
 | cons x L =>
   refine ⟨_,_,PX x L hL s,?_,rfl⟩
   have:=H.newTok 1 9 ((x::L).map .s)
   rw [List.length_map] at this
   exact this.setLo (m:=min s.lo s.nb) (by omega) (by omega)
theorem RZ {s0 s:St} {n:En} {R:List RA} {B:List (Nat×Box)} (H:Hp s0 s n R B) (L:List (List Nat)) (hL:L.length < 2^38) :
    ∃ r s1 a s',(lim Ba).call AO [tx L] s=some (r,s1)∧LY false s1 r=some (a,s')∧Bo 1 a (L.map .s)∧Hp s0 s' n R B∧s'.nb=s.nb:=by
 obtain ⟨r,s1,h1,H1,e1⟩:=UC H L hL
 obtain ⟨a,s',h2,h3,H2,e2⟩:=H1.pub 0 rfl
 refine ⟨r,s1,a,s',h1,Uh h2 h3 (Nb _ (fun _=>rfl) _),h3,?_,by omega⟩
 exact H2.dropR
end Go.Proofs.Ytgloinighjdhlaa

namespace Go.Proofs.Ytgloinighjdhlaa
open Go.Proofs.Ytgloinighjdhlaa.Am
structure KP where
 f:FT
 nm:AV
 a:AV
def KP.cells (p:KP):List AV:=[.b p.f.known,.i .u8 (p.f.kind:Nat),p.nm,p.a,.i .i64 p.f.rest,.i .i64 p.f.beside]
def KP.av (p:KP):AV:=.agg p.cells
def KP.ra (p:KP):RA:=⟨1,3,p.a,p.f.kids.map iv,true⟩
def KOk (K:List KP):Prop:=∀ p∈K,Bo 1 p.nm (p.f.names.map .s)∧∀ l,ones (p.a::l)=ones l
theorem KOk.app {K L:List KP} (h:KOk K) (k:KOk L):KOk (K++L):=fun p hp=>(List.mem_append.1 hp).elim (h p) (k p)
theorem KOk.cells {K:List KP} (h:KOk K):∀ x∈K.map KP.av,x.cells.length=6∧ones x.cells=true:=by
 intro x hx
 obtain ⟨p,hp,rfl⟩:=List.mem_map.1 hx
 obtain ⟨h1,h2⟩:=h p hp
 refine ⟨rfl,?_⟩
 show ones (AV.b p.f.known::AV.i .u8 (p.f.kind:Nat)::p.nm::p.a::[.i .i64 p.f.rest,.i .i64 p.f.beside])=true
 simp only [ones,h1.ones,h2]
theorem UD:∀ K:List KP,FD 6 K.length (BX (K.map KP.av))=K.map KP.av
 | []=>rfl
 | p::K=>by
   have h:=UD K
   rw [List.map_cons,BX,List.length_cons,FD,if_neg (by decide)]
   have h1:(p.av.cells++BX (K.map KP.av)).take 6=p.cells:=rfl
   have h2:(p.av.cells++BX (K.map KP.av)).drop 6=BX (K.map KP.av):=rfl
   rw [h1,h2,h]; rfl
def Ent (l:AV) (K:List KP) (E:List (Nat×Box)):Prop:=(l=.nsl∧K=[]∧E=[])∨∃ id,l=.bl id 6 0 K.length (K.length*6,false)∧E=[(id,.row 60 (BX (K.map KP.av)) false 0)]
theorem YZ {l:AV} {K:List KP} {E:List (Nat×Box)} (h:Ent l K E) (s:St):lenA s 1 l=some (.i .i64 (K.length:Nat)):=by
 rcases h with ⟨rfl,rfl,rfl⟩ | ⟨id,rfl,rfl⟩<;>rfl
theorem Ya {s0 q:St} {n:En} {l:AV} {K:List KP} {E B:List (Nat×Box)} (H:Hp s0 q n (K.map KP.ra) (E++B)) (hE:Ent l K E) (hK:KOk K) (p:KP) (hsz:K.length < 2^34) :
    ∃ a q',orU (appA q 6 60 l (.sl 6 [.agg p.cells] .full)) q 6 60 l (.sl 6 [.agg p.cells] .full)=some (a,q')∧Hp s0 q' n (⟨6,60,a,(K++[p]).map KP.av,true⟩::K.map KP.ra) B∧Av a≠none:=by
 rcases hE with ⟨rfl,rfl,rfl⟩ | ⟨id,rfl,rfl⟩
 · obtain ⟨a,q',d,H2,_,h⟩:=H.appN (es:=6) 60 (a:=.nsl) (xs:=[]) (y:=.sl 6 [.agg p.cells] .full) (ys:=[.agg p.cells]) .nil rfl (by simp)
   exact ⟨a,q',by rw [d,Mf],H2,(h (by simp)).1⟩
 · have hl:(K.map KP.av).length=K.length:=List.length_map ..
   have:=H.appU (y:=.sl 6 [.agg p.cells] .full) (ys:=[.agg p.cells]) (by omega) hK.cells (by rw [hl]; exact UD K) (fun _=>rfl) (by simp) (by rw [hl]; simp; omega)
   rw [hl] at this
   obtain ⟨a,q',d,H2,h⟩:=this
   refine ⟨a,q',d,?_,h⟩
   rw [List.map_append]
   exact H2
theorem UE {K:List KP} {i j:Nat} {p:KP} {v:AV} (h:K[i]? = some p) (hj:p.cells[j]? = some v):(BX (K.map KP.av))[i*6+j]? = some v:=by
 induction K generalizing i with
 | nil=>simp at h
 | cons p0 K ih =>
   rw [List.map_cons,BX]
   have hj6:j < 6:=(List.getElem?_eq_some_iff.1 hj).1
   cases i with
   | zero =>
     simp only [List.getElem?_cons_zero,Option.some.injEq] at h; subst h
     rw [Nat.zero_mul,Nat.zero_add,List.getElem?_append_left (by exact hj6)]
     exact hj
   | succ i =>
     rw [List.getElem?_append_right (by show 6≤_; omega)]
     rw [show (i+1)*6+j - p0.av.cells.length=i*6+j by show (i+1)*6+j - 6=_; omega]
     exact ih (by simpa using h)
theorem NF {K:List KP} {i j:Nat} {p g:KP} {v:AV} (h:K[i]? = some p) (hj:j < 6) (hg:p.cells.set j v=g.cells):(BX (K.map KP.av)).set (i*6+j) v=BX ((K.set i g).map KP.av):=by
 induction K generalizing i with
 | nil=>simp at h
 | cons p0 K ih =>
   rw [List.map_cons,BX]
   cases i with
   | zero =>
     simp only [List.getElem?_cons_zero,Option.some.injEq] at h; subst h
     rw [Nat.zero_mul,Nat.zero_add,List.set_append,if_pos (by exact hj),List.set_cons_zero,List.map_cons,BX]
     congr 1
   | succ i =>
     rw [List.set_append,if_neg (by show ¬ _ < 6; omega),List.set_cons_succ,List.map_cons,BX]
     rw [show (i+1)*6+j - p0.av.cells.length=i*6+j by show (i+1)*6+j - 6=_; omega]
     rw [ih (by simpa using h)]
theorem HO (K:List KP):(BX (K.map KP.av)).length=K.length*6:=by
 induction K with
 | nil=>rfl
 | cons p K ih=>rw [List.map_cons,BX,List.length_append,ih,List.length_cons]; show 6+_=_; omega
def PY (s0:St) (n:En) (B:List (Nat×Box)) (K:List KP) (x:ND) (a:AV) (s':St):Prop :=
 ∃ K',Hp s0 s' n (⟨6,60,a,K'.map KP.av,true⟩::K'.map KP.ra) B∧KOk K'∧Av a≠none∧K'.map KP.f=K.map KP.f++allF x K.length
theorem UF {α:Type} (p r:α) (L:List α):(p::r::L).Perm (r::(L++[p])):=(List.Perm.swap _ _ _).trans ((List.perm_append_singleton p L).symm.cons r)
theorem V5 {α:Type} (a b:α) (E L:List α):(a::b::(E++L)).Perm (E++a::b::L):=by
 refine .trans ?_ (List.perm_middle.symm)
 exact (List.perm_middle.symm).cons a
theorem Qh:∀ {ks:List ND} {n i:Nat} {y:ND},ks[i]? = some y→(posS ks n).take (i+1)=(posS ks n).take i++[((n+(DR (ks.take i) n).length:Nat):Int)]
 | [],_,_,_,h=>by simp at h
 | k::ks,n,0,y,h=>by simp [posS,DR]
 | k::ks,n,i+1,y,h=>by
   have:=Qh (n:=n+nodesN k) (ks:=ks) (i:=i) (y:=y) (by simpa using h)
   rw [posS,List.take_succ_cons,this,List.take_succ_cons,List.cons_append,List.take_succ_cons,DR,List.length_append,Ez]
   simp [Nat.add_assoc]
theorem Ji:∀ {ks:List ND} {n i:Nat} {y:ND},ks[i]? = some y→DR (ks.take (i+1)) n=DR (ks.take i) n++allF y (n+(DR (ks.take i) n).length)
 | [],_,_,_,h=>by simp at h
 | k::ks,n,0,y,h=>by
   simp only [List.getElem?_cons_zero,Option.some.injEq] at h; subst h
   simp [DR]
 | k::ks,n,i+1,y,h=>by
   have:=Ji (n:=n+nodesN k) (ks:=ks) (i:=i) (y:=y) (by simpa using h)
   rw [List.take_succ_cons,List.take_succ_cons,DR,this,DR,List.length_append,Ez,List.append_assoc,Nat.add_assoc]

attribute [local irreducible] W WO WE WQ WD Tr.get Tr.set
def facI (x:ND) (n i:Nat):FT:=⟨true,x.kind,x.names,(posS x.kids (n+1)).take i,if x.kind=2 then 1 else 0,0⟩
theorem Qi:∀ (l:List Nat) (i:Nat),(l.take i).sum≤l.sum
 | [],i=>by simp
 | x::l,0=>by simp
 | x::l,i+1=>by
   have:=Qi l i
   rw [List.take_succ_cons,List.sum_cons,List.sum_cons]; omega
theorem V6 (x:ND) (n i:Nat):1+(DR (x.kids.take i) n).length≤nodesN x:=by
 rw [Ts,Bz,List.map_take]
 have:=Qi (x.kids.map nodesN) i
 omega
def AddI (K:List KP) (x:ND) (i:Nat) (K1:List KP):Prop:=KOk K1∧K1.map KP.f=K.map KP.f++facI x K.length i::DR (x.kids.take i) (K.length+1)
theorem AddI.len {K K1:List KP} {x:ND} {i:Nat} (h:AddI K x i K1):K1.length=K.length+1+(DR (x.kids.take i) (K.length+1)).length:=by
 have:=congrArg List.length h.2
 simp only [List.length_map,List.length_append,List.length_cons] at this
 omega
theorem AddI.get {K K1:List KP} {x:ND} {i:Nat} (h:AddI K x i K1):∃ p,K1[K.length]? = some p∧p.f=facI x K.length i:=by
 have h1:(K1.map KP.f)[K.length]? = some (facI x K.length i):=by
  rw [h.2,List.getElem?_append_right (by simp)]; simp
 rw [List.getElem?_map,Option.map_eq_some_iff] at h1
 exact h1
theorem AddI.next {K K1 K':List KP} {x y:ND} {i:Nat} {p:KP} {a':AV} (h:AddI K x i K1) (hp:K1[K.length]? = some p) (hf:p.f=facI x K.length i) (hy:x.kids[i]? = some y) (hK:KOk K')
    (h2:K'.map KP.f=(K1.set K.length ⟨{ p.f with kids:=p.f.kids++[(K1.length:Int)] },p.nm,a'⟩).map KP.f++allF y K1.length):AddI K x (i+1) K':=by
 refine ⟨hK,?_⟩
 have hl:=h.len
 rw [h2,List.map_set,h.2,List.set_append,if_neg (by simp)]
 rw [show K.length - (K.map KP.f).length=0 by simp,List.set_cons_zero,List.append_assoc,List.cons_append,Ji hy,hl]
 congr 2
 simp only [hf,facI,Qh hy]
theorem AddI.fin {K K1:List KP} {x:ND} (h:AddI K x x.kids.length K1):K1.map KP.f=K.map KP.f++allF x K.length:=by
 rw [h.2,HL,List.take_length]
 congr 2
 simp only [facI,HK]
 rw [List.take_of_length_le (by rw [Fe]; exact Nat.le_refl _)]
theorem both2 (fn:Fun) (a b:AV):both fn [a,b]=none:=by
 unfold both
 split
 · rename_i h; cases h
 · rfl
theorem add_ok:∀ x:ND,x.Ok→∀ {s0 s:St} {n:En} {K:List KP} {E B:List (Nat×Box)} {l:AV},Hp s0 s n (K.map KP.ra) (E++B)→Ent l K E→KOk K→K.length+nodesN x < 2^33 →
    ∃ a s',(lim Ba).call Dk [l,.agg x.cells] s=some (a,s')∧PY s0 n B K x a s':=by
 refine ND.ind fun x ih ho s0 s n K E B l H hE hK hsz=>?_
 have hnl:=ho.names.2
 have hkl:=ho.kids.2
 have hz0:wkZ A3.cin [l,.agg x.cells]=[l,.agg x.cells]:=by simp [A3,wkZ]
 refine fn_K (t:=4) (Post:=PY s0 n B K x) p2_add rfl rfl rfl (by rw [hz0]; exact both2 _ _ _) ?_
 rw [hz0]
 have hloop:∀ (e:Tr) (q:St) (m:Nat) (a:AV) (K1:List KP),Hp s0 q s.en (⟨6,60,a,K1.map KP.av,true⟩::K1.map KP.ra) ((m,.cells 47 x.cells)::B)→Av a≠none→AddI K x 0 K1→e.get 0=a→e.get 3=.p m 0→e.get 5=.i .i64 (K.length:Nat) →
     W (lim Ba) (subC A3.body [1,1,1,1,1]) e q (KK s 4 (PY s0 n B K x)):=by
  intro e q m a K1 H1 ha hA g0 g3 g5
  have l3:=H1.ld 0 (off:=3) (v:=.ws false 4 (x.kids.map ND.av)) rfl rfl
  simp only [A3,subC,go_sem,AD,AA,AC,AB,KB_n,KB_x,Nat.reduceBEq,Nat.reduceAdd,Nat.reduceLT,Nat.reduceLeDiff,Nat.reduceEqDiff,reduceIte,Int.reduceEq,reduceCtorEq,g3,l3,List.length_map]
  refine Bv (fun z e q=>∃ (i:Nat) (a:AV) (K1:List KP),i+z=x.kids.length∧Hp s0 q s.en (⟨6,60,a,K1.map KP.av,true⟩::K1.map KP.ra) B∧Av a≠none∧AddI K x i K1 ∧
   e.get 0=a∧e.get 5=.i .i64 (K.length:Nat)∧e.get 26=.ws false 4 (x.kids.map ND.av)∧e.get 27=.i .i64 (x.kids.length:Nat)∧e.get 28=.i .i64 (i:Nat)) ?_ x.kids.length _ _ (by
    simp only [go_sem,AD,AA,AC,AB,KB_n,KB_x,Nat.reduceBEq,Nat.reduceAdd,Nat.reduceLT,Nat.reduceLeDiff,Nat.reduceEqDiff,reduceIte,Int.reduceEq,reduceCtorEq,g0,g5]
    exact ⟨0,a,K1,by omega,H1.dropB,ha,hA,rfl,rfl⟩)
  clear g0 g3 g5 ha hA l3 H1 K1 a q e m
  rintro z e q ⟨i,a,K1,hi,H1,ha,hA,g0,g5,g26,g27,g28⟩
  by_cases h:i < x.kids.length
  · have e1:((i:Int) < (x.kids.length:Int))=True:=eq_true (by omega)
    obtain ⟨y,hy⟩:∃ y,x.kids[i]? = some y:=⟨_,List.getElem?_eq_getElem h⟩
    have hmem:y∈x.kids:=List.mem_of_getElem? hy
    have hget:=ER hy
    have hw1:=Ap (show i+1 < 2^63 by omega)
    obtain ⟨p,hp,hpf⟩:=hA.get
    have hlen:=hA.len
    have hlt:=V6 x (K.length+1) (i+1)
    rw [Ji hy,List.length_append,Ez] at hlt
    have H4:=H1.new (.cells 47 [.i .u8 0,.s [],.nsl,.nsl])
    generalize hq4:q.new (.cells 47 [.i .u8 0,.s [],.nsl,.nsl])=q4 at H4
    generalize hj:q.nb=j at H4
    obtain ⟨q5,d5,H5,_⟩:=H4.stw 0 (v:=.agg y.cells) (m:=4) rfl rfl ⟨Af y,Lh y⟩
    obtain ⟨q6,d6,H6,_⟩:=H5.thaw 0 rfl ha (List.range' 1 (K1.map KP.ra).length) List.nodup_range' (by simp)
    rw [Km] at H6
    generalize hid:q5.nb=id at H6 d6
    have l1:=H6.ldR 0 rfl (UE (j:=3) hp rfl)
    have hR:(K1.map KP.ra)[K.length]? = some ⟨1,3,p.a,p.f.kids.map iv,true⟩:=by rw [List.getElem?_map,hp]; rfl
    have r1:=H6.rld K.length hR
    obtain ⟨a',q7,d7,H7,_⟩:=H6.app K.length (y:=.sl 1 [iv (K1.length:Nat)] .full) (ys:=[iv (K1.length:Nat)]) hR rfl (by
     have:p.f.kids.length≤x.kids.length:=by rw [hpf]; simp only [facI,List.length_take,Fe]; omega
     simp; omega)
    have hav:=H7.rcells K.length (by rw [List.getElem?_set,if_pos rfl,if_pos (List.getElem?_eq_some_iff.1 hR).1])
    obtain ⟨q8,d8,H8⟩:=H7.stR 0 (off:=K.length*6+3) (v:=a') rfl (by rw [HO]; omega) ⟨hav.1,hav.2.1⟩
    have hset:(K1.map KP.ra).set K.length ⟨1,3,a',p.f.kids.map iv++[iv (K1.length:Nat)],true⟩=(K1.set K.length ⟨{ p.f with kids:=p.f.kids++[(K1.length:Int)] },p.nm,a'⟩).map KP.ra:=by
     rw [List.map_set]
     congr 1
     simp only [KP.ra,List.map_append,List.map_cons,List.map_nil]
    have hfs:=NF (j:=3) (v:=a') (g:=⟨{ p.f with kids:=p.f.kids++[(K1.length:Int)] },p.nm,a'⟩) hp (by omega) rfl
    rw [hset,List.set_cons_zero,hfs] at H8
    have hl5:=H8.ldw 1 (m:=4) rfl rfl
    have hpm:=hA.1 p (List.mem_of_getElem? hp)
    have hK2:KOk (K1.set K.length ⟨{ p.f with kids:=p.f.kids++[(K1.length:Int)] },p.nm,a'⟩):=by
     intro p' hp'
     rcases List.mem_or_eq_of_mem_set hp' with h | rfl
     · exact hA.1 p' h
     · exact ⟨hpm.1,hav.2.2⟩
    obtain ⟨a2,q9,hcall,K',H9,hK',ha2,hf2⟩:=ih y hmem (ho.kids.1 y hmem) (K:=K1.set K.length ⟨{ p.f with kids:=p.f.kids++[(K1.length:Int)] },p.nm,a'⟩) (E:=[(id,.row 60 _ false 0)]) (B:=(j,.cells 47 y.cells)::B) (l:=.bl id 6 0 K1.length (K1.length*6,false)) H8
     (.inr ⟨id,by rw [List.length_set],rfl⟩) hK2 (by rw [List.length_set]; omega)
    rw [List.length_set] at hf2
    have hN:=hA.next hp hpf hy hK' hf2
    have hlt2:(K.length < K1.length)=True:=eq_true (by omega)
    have alI:Ac 1 [AV.i .i64 (K1.length:Int)]=true:=rfl
    rw [List.length_map] at d6
    simp only [iv] at d7
    simp only [go_sem,AD,AA,AC,AB,KB_n,KB_x,Nat.reduceBEq,Nat.reduceAdd,Nat.reduceLT,Nat.reduceLeDiff,Nat.reduceEqDiff,reduceIte,Int.reduceEq,reduceCtorEq,g0,g5,g26,g27,g28,e1,AJ,hget,ldN,AR,hq4,hj,d5,d6,hlt2,l1,r1,alI,S8,d7,d8,hl5,hcall,hw1,Nat.zero_add]
    exact ⟨z - 1,by omega,i+1,a2,K',by omega,H9.dropB,ha2,hN,rfl,rfl⟩
  · have e1:((i:Int) < (x.kids.length:Int))=False:=eq_false (by omega)
    obtain rfl:i=x.kids.length:=by omega
    simp only [go_sem,AD,AA,AC,AB,KB_n,KB_x,Nat.reduceBEq,Nat.reduceAdd,Nat.reduceLT,Nat.reduceLeDiff,Nat.reduceEqDiff,reduceIte,Int.reduceEq,reduceCtorEq,g0,g5,g26,g27,g28,e1]
    exact ⟨K1,H.back H1,hA.1,ha,hA.fin⟩
 have H0:=H.enter.new (.cells 47 x.cells)
 generalize hq1:s.enter.new (.cells 47 x.cells)=q1 at H0
 generalize hm:s.enter.nb=m at H0
 show W (lim Ba) (.seq (subC A3.body [0]) (.seq (subC A3.body [1,0]) (.seq (subC A3.body [1,1,0]) (.seq (subC A3.body [1,1,1,0]) (.seq (subC A3.body [1,1,1,1,0]) (subC A3.body [1,1,1,1,1])))))) _ _ _
 refine Ea (fun e q=>q=q1∧e.get 0=l∧e.get 3=.p m 0) ?_ ?_
 · simp only [A3,subC,go_sem,AD,AA,AC,AB,KB_n,KB_x,Nat.reduceBEq,Nat.reduceAdd,Nat.reduceLT,Nat.reduceLeDiff,Nat.reduceEqDiff,reduceIte,Int.reduceEq,reduceCtorEq,Af,hq1,hm]
 rintro e q ⟨rfl,g0,g3⟩
 refine Ea (fun e q'=>q'=q∧e.get 0=l∧e.get 3=.p m 0∧e.get 5=.i .i64 (K.length:Nat)) ?_ ?_
 · simp only [A3,subC,go_sem,AD,AA,AC,AB,KB_n,KB_x,Nat.reduceBEq,Nat.reduceAdd,Nat.reduceLT,Nat.reduceLeDiff,Nat.reduceEqDiff,reduceIte,Int.reduceEq,reduceCtorEq,g0,g3,YZ hE]
 clear g0 g3 e
 rintro e q' ⟨rfl,g0,g3,g5⟩
 refine Ea (fun e q=>∃ jb nm,Hp s0 q s.en (K.map KP.ra) ((jb,.cells 60 [.b true,.i .u8 (x.kind:Nat),nm,.nsl,.i .i64 0,.i .i64 0])::(m,.cells 47 x.cells)::(E++B))∧Bo 1 nm (x.names.map .s)∧e.get 0=l∧e.get 3=.p m 0∧e.get 5=.i .i64 (K.length:Nat)∧e.get 6=.p jb 0) ?_ ?_
 · have l0:=H0.ld 0 (off:=0) (v:=.i .u8 (x.kind:Nat)) rfl rfl
   have l2:=H0.ld 0 (off:=2) (v:=tx x.names) rfl rfl
   obtain ⟨r,s1,nm,q2,d1,d2,t1,H2,_⟩:=RZ H0 x.names (by omega)
   have l0':=H2.ld 0 (off:=0) (v:=.i .u8 (x.kind:Nat)) rfl rfl
   obtain ⟨q3,d3,H3,_⟩:=H2.adp (T:=60) (m:=6) (z:=[.b false,.i .u8 0,.nsl,.nsl,.i .i64 0,.i .i64 0]) (v:=.agg [.b true,.i .u8 (x.kind:Nat),nm,.nsl,.i .i64 0,.i .i64 0]) rfl ⟨rfl,by simp only [Cn,Am.ones,t1.ones]⟩
   show W _ (.regD _ _) _ _ _
   refine QM rfl ?_
   simp only [go_sem,AD,AA,AC,AB,KB_n,KB_x,Nat.reduceBEq,Nat.reduceAdd,Nat.reduceLT,Nat.reduceLeDiff,Nat.reduceEqDiff,reduceIte,Int.reduceEq,reduceCtorEq,g3,l0,l2,d1,d2,t1.noTok,t1.pub,t1.cells.1,d3]
   refine X6 rfl ?_ (by simp [still,beqA]) ⟨⟨_,rfl,l0⟩,⟨_,rfl,l0⟩,⟨_,rfl,l0⟩,⟨_,rfl,l0⟩,⟨_,rfl,l0⟩,⟨_,rfl,l0'⟩,trivial⟩ (QN ?_)
   · simp only [go_sem,AD,AA,AC,AB,KB_n,KB_x,Nat.reduceBEq,Nat.reduceAdd,Nat.reduceLT,Nat.reduceLeDiff,Nat.reduceEqDiff,reduceIte,Int.reduceEq,reduceCtorEq,g3]
   simp only [go_sem,AD,AA,AC,AB,KB_n,KB_x,Nat.reduceBEq,Nat.reduceAdd,Nat.reduceLT,Nat.reduceLeDiff,Nat.reduceEqDiff,reduceIte,Int.reduceEq,reduceCtorEq]
   exact ⟨_,nm,H3,t1,g0,g3,g5,rfl⟩
 clear g0 g3 g5 e
 rintro e q ⟨jb,nm,H1,t1,g0,g3,g5,g6⟩
 refine Ea (fun e q=>Hp s0 q s.en (K.map KP.ra) ((jb,.cells 60 [.b true,.i .u8 (x.kind:Nat),nm,.nsl,.i .i64 (if x.kind=2 then 1 else 0),.i .i64 0])::(m,.cells 47 x.cells)::(E++B))∧e.get 0=l∧e.get 3=.p m 0∧e.get 5=.i .i64 (K.length:Nat)∧e.get 6=.p jb 0) ?_ ?_
 · have l0:=H1.ld 1 (off:=0) (v:=.i .u8 (x.kind:Nat)) rfl rfl
   obtain ⟨q2,d2,H2,_⟩:=H1.st 0 (off:=4) (v:=.i .i64 1) rfl (show 4 < 6 by omega) ⟨rfl,rfl⟩
   have eb:((x.kind:Int)=2)=(x.kind=2):=propext (by omega)
   rcases Classical.propComplete (x.kind=2) with h2 | h2
   · simp only [A3,subC,go_sem,AD,AA,AC,AB,KB_n,KB_x,Nat.reduceBEq,Nat.reduceAdd,Nat.reduceLT,Nat.reduceLeDiff,Nat.reduceEqDiff,reduceIte,Int.reduceEq,reduceCtorEq,g0,g3,g5,g6,l0,eb,h2,d2]
     exact H2
   · simp only [A3,subC,go_sem,AD,AA,AC,AB,KB_n,KB_x,Nat.reduceBEq,Nat.reduceAdd,Nat.reduceLT,Nat.reduceLeDiff,Nat.reduceEqDiff,reduceIte,Int.reduceEq,reduceCtorEq,g0,g3,g5,g6,l0,eb,h2]
     exact H1
 clear g0 g3 g5 g6 e H1
 rintro e q ⟨H1,g0,g3,g5,g6⟩
 have lf:=H1.ldw 0 (m:=6) rfl rfl
 have hp:KOk [⟨⟨true,x.kind,x.names,[],if x.kind=2 then 1 else 0,0⟩,nm,.nsl⟩]:=by
  intro p hp
  simp only [List.mem_singleton] at hp
  subst hp
  exact ⟨t1,fun _=>rfl⟩
 obtain ⟨a,q2,d2,H2,ha⟩:=Ya (H1.perm (.refl _) (V5 _ _ E B)) hE hK ⟨⟨true,x.kind,x.names,[],if x.kind=2 then 1 else 0,0⟩,nm,.nsl⟩ (by omega)
 have H3:=(H2.addFull 1 3 true (a:=.nsl) (xs:=[]) .nil).perm (UF _ _ _) (.refl _)
 refine Ea (fun e q=>q=q2∧e.get 0=a∧e.get 3=.p m 0∧e.get 5=.i .i64 (K.length:Nat)) ?_ ?_
 · have hpl:∀ q,pubL q [.b true,.i .u8 (x.kind:Nat),nm,.nsl,.i .i64 (if x.kind=2 then 1 else 0),.i .i64 0]=some ([.b true,.i .u8 (x.kind:Nat),nm,.nsl,.i .i64 (if x.kind=2 then 1 else 0),.i .i64 0],q):=fun q=>by
    simp only [pubL,t1.pub]; rfl
   have hal:Ac 6 [AV.agg [.b true,.i .u8 (x.kind:Nat),nm,.nsl,.i .i64 (if x.kind=2 then 1 else 0),.i .i64 0]]=true:=by
    simp only [Ac,AV.cells,Am.ones,t1.ones]; rfl
   have hcl:((1:Nat)≤6)=True:=eq_true (by omega)
   simp only [KP.cells] at d2
   simp only [A3,subC,go_sem,AD,AA,AC,AB,KB_n,KB_x,Nat.reduceBEq,Nat.reduceAdd,Nat.reduceLT,Nat.reduceLeDiff,Nat.reduceEqDiff,reduceIte,Int.reduceEq,reduceCtorEq,g0,g3,g5,g6,lf,t1.pub,hal,hcl,d2]
 clear g0 g3 g5 g6 e
 rintro e q ⟨rfl,g0,g3,g5⟩
 refine hloop e q m a (K++[_]) ?_ ha ⟨hK.app hp,?_⟩ g0 g3 g5
 · rw [List.map_append (f:=KP.ra)]
   exact H3.dropB
 · rw [List.map_append]
   simp [facI,DR]

def TOk (K:List KP):Prop:=∀ p∈K,Bo 1 p.nm (p.f.names.map .s)∧Bo 1 p.a (p.f.kids.map iv)
theorem TOk.kok {K:List KP} (h:TOk K):KOk K:=fun p hp=>⟨(h p hp).1,(h p hp).2.ones⟩
theorem TOk.all {K:List KP} (h:TOk K):Ac 6 (K.map KP.av)=true:=by
 have hk:=h.kok.cells
 generalize K.map KP.av=xs at hk
 induction xs with
 | nil=>rfl
 | cons x xs ih =>
   obtain ⟨h1,h2⟩:=hk x (by simp)
   rw [Ac,ih fun y hy=>hk y (by simp [hy])]
   simp [h1,h2]
theorem Wk:∀ L:List Int,wkM .id (L.map iv)=L.map iv
 | []=>rfl
 | x::L=>by rw [List.map_cons,wkM,Wk L,wk]
theorem TOk.wk {K:List KP} (h:TOk K):wkM (.agg [.id,.id,.sl 1 .id,.sl 1 .id,.id,.id]) (K.map KP.av)=(K.map KP.f).map FT.av:=by
 induction K with
 | nil=>rfl
 | cons p K ih =>
   obtain ⟨h1,h2⟩:=h p (by simp)
   rw [List.map_cons,wkM,ih fun q hq=>h q (by simp [hq]),List.map_cons,List.map_cons]
   congr 1
   show Am.wk _ (.agg p.cells)=_
   simp only [KP.cells,Am.wk,wkZ,h1.wk (Lb _),h2.wk (Wk _)]
   rfl
theorem TOk.refs {K:List KP} (h:TOk K):AV.refs.go (K.map KP.av)=false:=by
 induction K with
 | nil=>rfl
 | cons p K ih =>
   obtain ⟨h1,h2⟩:=h p (by simp)
   rw [List.map_cons,AV.refs.go,ih fun q hq=>h q (by simp [hq]),Bool.or_false]
   show AV.refs (.agg p.cells)=false
   have e1:p.nm.refs=false:=h1.refs (EU _)
   have e2:p.a.refs=false:=h2.refs (by generalize p.f.kids=L; induction L with
    | nil=>rfl
    | cons x L ih=>rw [List.map_cons,AV.refs.go,ih]; rfl)
   simp only [KP.cells,AV.refs,AV.refs.go,e1,e2,Bool.or_self]
section
variable {s0 s:St} {n:En} {B:List (Nat×Box)}
theorem UG:∀ (K:List KP) {s:St},Hp s0 s n (K.map KP.ra) B→KOk K→∃ K' s',Kh s (K.map KP.av)=some (K'.map KP.av,s')∧Hp s0 s' n [] B∧K'.map KP.f=K.map KP.f∧TOk K'
 | [],s,H,_=>⟨[],s,rfl,H,rfl,fun p hp=>by simp at hp⟩
 | p :: K,s,H,hK=>by
   obtain ⟨a',s1,d1,t1,H1,_⟩:=H.pub 0 rfl
   have hp:=hK p (by simp)
   obtain ⟨K',s2,d2,H2,h2,h3⟩:=UG K (s:=s1) (H1.dropR) fun q hq=>hK q (by simp [hq])
   refine ⟨⟨p.f,p.nm,a'⟩::K',s2,?_,H2,by simp [h2],?_⟩
   · have e1:p.ra.a=p.a:=rfl
     rw [e1] at d1
     have:pubL s p.cells=some ((⟨p.f,p.nm,a'⟩:KP).cells,s1):=by
      simp only [KP.cells,pubL,QF,WV,hp.1.pub,d1]
     rw [List.map_cons]
     show Kh s (.agg p.cells::_)=_
     simp only [Kh,this,d2]
     rfl
   · intro q hq
     rcases List.mem_cons.1 hq with rfl | hq
     · exact ⟨hp.1,t1⟩
     · exact h3 q hq
theorem UH {K:List KP} (H:Hp s0 s n (K.map KP.ra) B) (hK:KOk K) (ht:(K.map KP.av).any NV=false):TOk K:=by
 intro p hp
 refine ⟨(hK p hp).1,?_⟩
 obtain ⟨i,hi,rfl⟩:=List.mem_iff_getElem.1 hp
 have hr:=H.rows (i:=i) (r:=K[i].ra) (by rw [List.getElem?_map,List.getElem?_eq_getElem hi]; rfl)
 rcases hr with h | ⟨k,v,t,h,_⟩
 · exact h.told
 · rw [List.any_eq_false] at ht
   exfalso
   refine ht K[i].av (List.mem_map.2 ⟨_,hp,rfl⟩) ?_
   have h':K[i].a=.sl 1 (K[i].f.kids.map iv) (.tok k v):=h
   show NV (.agg K[i].cells)=true
   simp [KP.cells,NV,h']
theorem V7 {K:List KP} {a:AV} (H:Hp s0 s n (⟨6,60,a,K.map KP.av,true⟩::K.map KP.ra) B) (hK:KOk K) (ha:Av a≠none) :
    ∃ K' s',LY false s a=some (.sl 6 (K'.map KP.av) .shut,s')∧Hp s0 s' n [] B∧K'.map KP.f=K.map KP.f∧TOk K':=by
 rcases H.rows (i:=0) rfl with h | ⟨k,v,t,h,_⟩
 · exact absurd (Em h) ha
 simp only at h
 obtain ⟨a',s1,d1,t1,H1,_⟩:=H.pub 0 rfl
 simp only [h] at d1
 have ha':a'=.sl 6 (K.map KP.av) .shut:=by
  simp only [Am.pub] at d1
  split at d1
  · split at d1
    · simp only [Option.some.injEq,Prod.mk.injEq] at d1; exact d1.1.symm
    · cases d1
  · cases d1
 subst ha'
 have H2:Hp s0 s1 n (K.map KP.ra) B:=H1.dropR
 rw [h]
 simp only [LY,d1]
 by_cases ht:(K.map KP.av).any NV=true
 · rw [if_pos ht]
   obtain ⟨K',s2,d2,H3,h2,h3⟩:=UG K H2 hK
   refine ⟨K',s2,?_,H3,h2,h3⟩
   simp only [d2,h3.all,if_true]
 · rw [if_neg ht]
   exact ⟨K,s1,rfl,by have:=H2.sel [] (List.range B.length) (by simp) List.nodup_range; rw [Ds] at this; exact this,rfl,UH H2 hK (by simpa using ht)⟩
end
theorem all_ok (x:ND) (ho:x.Ok) (hn:nodesN x < 2^32) (s:St) (hw:Wf s):(lim Ba).call EL [.agg x.cells] s=some (.tup [if mayN x then fx (allF x 0) else fx [],.i .i64 (if mayN x then 0 else 4)],s):=by
 have hz0:wkZ Cx.cin [.agg x.cells]=[.agg x.cells]:=by simp [Cx,wkZ,wk,ND.cells]
 refine fn_W p2_All rfl rfl ?_
 have H:=(Hp.begin hw).new (.cells 47 x.cells)
 generalize hq:s.enter.new (.cells 47 x.cells)=q at H
 generalize hm:s.enter.nb=m at H
 have l1:=H.ldw 0 (m:=4) rfl rfl
 have hf:=d_fmay (s:=q) ho (by omega)
 rw [hz0]
 cases hmay:mayN x with
 | false =>
   rw [hmay] at hf
   simp only [Cx,go_sem,AD,AA,AC,AB,KB_n,KB_x,Nat.reduceBEq,Nat.reduceAdd,Nat.reduceLT,Nat.reduceLeDiff,Nat.reduceEqDiff,reduceIte,Int.reduceEq,reduceCtorEq,Af,hq,hm,l1,AR,hf]
   exact AQ H.over rfl rfl
 | true =>
   rw [hmay] at hf
   obtain ⟨a,q2,d2,K,H2,hK,ha,hKf⟩:=add_ok x ho (K:=[]) (E:=[]) (l:=.nsl) (by exact H) (.inl ⟨rfl,rfl,rfl⟩) (fun p hp=>by simp at hp) (by simp; omega)
   obtain ⟨K',q3,d3,H3,hf3,hT⟩:=V7 H2 hK ha
   simp only [Cx,go_sem,AD,AA,AC,AB,KB_n,KB_x,Nat.reduceBEq,Nat.reduceAdd,Nat.reduceLT,Nat.reduceLeDiff,Nat.reduceEqDiff,reduceIte,Int.reduceEq,reduceCtorEq,Af,hq,hm,l1,AR,hf,d2,d3]
   refine AQ H3.over ?_ ?_
   · simp only [Bt,AV.refs,AV.refs.go,hT.refs,Bool.or_self]
   · simp only [Bt,wkZ,wk,Nat.beq_refl,if_true,hT.wk,hf3,hKf]
     rfl
end Go.Proofs.Ytgloinighjdhlaa

namespace Go.Proofs.Ytgloinighjdhlaa
open Go.Proofs.Ytgloinighjdhlaa.Am
theorem UI {l:List Nat} {x:Nat} (h:x∈l):x≤l.sum:=by
 induction l with
 | nil=>simp at h
 | cons y l ih =>
   rw [List.sum_cons]
   rcases List.mem_cons.1 h with rfl | h
   · omega
   · have:=ih h; omega
theorem V8 {x k:ND} (h:k∈x.kids):DQ k≤DQ x:=by
 rw [It x]
 have:=UI (List.mem_map.2 ⟨k,h,rfl⟩:DQ k∈x.kids.map DQ)
 omega
theorem UJ {x:ND} {y:List Nat} (h:y∈x.names):y.length≤DQ x:=by
 rw [It x]
 have:=UI (List.mem_map.2 ⟨y,h,rfl⟩:1+y.length∈x.names.map fun l=>1+l.length)
 omega
theorem OV:∀ {ks:List ND} {n:Nat} {f:FT},f∈DR ks n→∃ k∈ks,∃ m,f∈allF k m
 | [],_,_,h=>by simp [DR] at h
 | k :: ks,n,f,h=>by
   rw [DR,List.mem_append] at h
   rcases h with h | h
   · exact ⟨k,by simp,n,h⟩
   · obtain ⟨k',h1,m,h2⟩:=OV h
     exact ⟨k',by simp [h1],m,h2⟩
theorem Yb:∀ x:ND,x.Ok→DQ x < 2^60→∀ n,∀ f∈allF x n,f.Ok:=by
 refine ND.ind fun x ih ho hb n f hf=>?_
 rw [HL] at hf
 rcases List.mem_cons.1 hf with rfl | hf
 · refine ⟨ho.kind,fun l hl=>⟨ho.names.1 l hl,by have:=UJ hl; omega⟩,ho.names.2,?_⟩
   show (posS x.kids (n+1)).length < _
   rw [Fe]; exact ho.kids.2
 · obtain ⟨k,hk,m,hm⟩:=OV hf
   exact ih k hk (ho.kids.1 k hk) (by have:=V8 hk; omega) m f hm
theorem Wl:∀ (ks:List ND),(∀ k∈ks,∀ n,(flatK (allF k n)).length+1=nodesN k)→∀ n,(flatK (DR ks n)).length+ks.length=(ks.map nodesN).sum
 | [],_,n=>by simp [DR,flatK]
 | k::ks,h,n=>by
   have h1:=h k (by simp) n
   have h2:=Wl ks (fun x hx=>h x (by simp [hx])) (n+nodesN k)
   rw [DR,OS,List.length_append,List.map_cons,List.sum_cons,List.length_cons]
   omega
theorem V9:∀ (x:ND) (n:Nat),(flatK (allF x n)).length+1=nodesN x:=by
 refine ND.ind fun x ih n=>?_
 have:=Wl x.kids ih (n+1)
 rw [HL,ME,List.length_append,Bz]
 show (posS x.kids (n+1)).length+_+1=_
 rw [Fe]; omega
theorem Yc {x:ND} (ho:x.Ok) (hb:DQ x < 2^32):FOk (allF x 0):=by
 have h1:=Jd x
 have h2:=V9 x 0
 exact ⟨Yb x ho (by omega) 0,by rw [Ez]; omega,by omega⟩
theorem PZ:∀ x:ND,x.Ok→(bareN x).Ok:=by
 refine ND.ind fun x ih ho=>?_
 rw [Ff]
 refine .mk ho.kind ?_ ?_ ho.names.1 ho.names.2 (by rw [List.length_map]; exact ho.kids.2) ?_
 · split
   · exact ⟨by simp,by simp⟩
   · exact ⟨by simp,by simp⟩
 · split<;>simp
 · intro y hy
   obtain ⟨k,hk,rfl⟩:=List.mem_map.1 hy
   exact ih k hk (ho.kids.1 k hk)
theorem Ka {n:ND} (h:mayN n=true):n.kind=2:=by
 unfold mayN at h
 simp only [Bool.and_eq_true,decide_eq_true_eq] at h
 exact h.1
theorem WA {a:ND} (ha:mayN a=true):mayP (allF a 0)=true∧C6 (allF a 0) a=true:=by
 have h1:=PQ (Df ha) (Ka ha)
 exact ⟨h1,(ET _ _).2 ⟨h1,ha,(OU (Df ha) (Ka ha) (Df ha)).2 rfl⟩⟩
theorem UK {a b:ND} (ha:mayN a=true) (hb:mayN b=true):C6 (allF a 0) b=true↔bareN a=bareN b:=by
 rw [ET,OU (Df ha) (Ka ha) (Df hb)]
 exact ⟨fun h=>h.2.2,fun h=>⟨PQ (Df ha) (Ka ha),hb,h⟩⟩

theorem Yd (s:St):(lim Ba).call Al [] s=some (.b true,s):=by
 obtain ⟨n,s',h⟩:=GS
 rw [C8 Vz rfl]
 exact Hn (a1:=[]) (a2:=[]) (s1:=s) rfl rfl (BI.2 ⟨n,h⟩)
theorem OW {s:St} {K:List KP} {id T rm:Nat} {x:Nat×Bool} (hb:s.box? id=some (.row T (BX (K.map KP.av)) false rm)) (hT:TOk K):RV s (.bl id 6 0 K.length x) (K.map KP.f):=by
 have hl:=HO K
 have hc:cut (BX (K.map KP.av)) 0 (K.length*6)=some (BX (K.map KP.av)):=by
  unfold cut
  rw [List.drop_zero,List.take_of_length_le (by omega),if_pos hl]
 refine ⟨.sl 6 (K.map KP.av) .shut,s.setBox id (.row T (BX (K.map KP.av)) true rm),?_,?_⟩
 · simp only [frz,hb,hc]
   rw [if_pos ⟨Nat.zero_le _,(UB hT.kok.cells).2,by decide⟩,UD]
 · have:wk cF (.sl 6 (K.map KP.av) .shut)=fx (K.map KP.f):=by
    show Am.wk (.sl 6 _) _=_
    simp only [Am.wk,Nat.beq_refl,if_true,hT.wk,fx]
   rw [this]; exact NE _
def ofF (f:FT):KP:=⟨f,tx f.names,zx f.kids⟩
theorem ofF_av (l:List FT):(l.map ofF).map KP.av=l.map FT.av:=by
 rw [List.map_map]; exact List.map_congr_left fun f _=>rfl
theorem ofF_f (l:List FT):(l.map ofF).map KP.f=l:=by
 rw [List.map_map]
 conv=>rhs; rw [← List.map_id l]
 exact List.map_congr_left fun f _=>rfl
theorem ofF_ok (l:List FT):TOk (l.map ofF):=by
 intro p hp
 obtain ⟨f,_,rfl⟩:=List.mem_map.1 hp
 exact ⟨.ws,.ws⟩
theorem TOk.set {K:List KP} (h:TOk K) {g:KP} (hg:TOk [g]) (i:Nat):TOk (K.set i g):=by
 intro p hp
 rcases List.mem_or_eq_of_mem_set hp with hp | rfl
 · exact h p hp
 · exact hg p (by simp)
theorem UL {K:List KP} {i:Nat} {g:KP} (hi:i < K.length):(BX (K.map KP.av)).take (i*6)++(g.cells++(BX (K.map KP.av)).drop (i*6+6))=BX ((K.set i g).map KP.av):=by
 induction K generalizing i with
 | nil=>simp at hi
 | cons p K ih =>
   have hp:p.av.cells.length=6:=rfl
   cases i with
   | zero =>
     rw [List.set_cons_zero,List.map_cons,List.map_cons,BX,BX,Nat.zero_mul,List.take_zero,List.nil_append,Nat.zero_add,List.drop_append,hp,List.drop_of_length_le (by rw [hp]; exact Nat.le_refl _)]
     rfl
   | succ i =>
     have:=ih (i:=i) (by simpa using hi)
     rw [List.set_cons_succ,List.map_cons,List.map_cons,BX,BX,← this,List.take_append,List.drop_append,hp]
     rw [List.take_of_length_le (by rw [hp]; omega),List.drop_of_length_le (by rw [hp]; omega),List.nil_append,List.append_assoc]
     rw [show (i+1)*6 - 6=i*6 by omega,show (i+1)*6+6 - 6=i*6+6 by omega]

attribute [local irreducible] W WO WE WQ WD Tr.get Tr.set
def rr (k:Nat):C:=subC AE.body (List.replicate k 1)
def KW21 (s:St):Ex→Tr→St→Prop:=KF s AE.res AE.cout (.b true)
theorem Wm (s:St) (f:Bool) (n:Nat) (l:List AV):He s (.ws f n l)=some (.ws f n l,s):=rfl
def noK:KP:=⟨noF,.nsl,.nsl⟩
theorem noK_ok:TOk [noK]:=by
 intro p hp
 simp only [List.mem_singleton] at hp
 subst hp
 exact ⟨.inl ⟨rfl,rfl⟩,.inl ⟨rfl,rfl⟩⟩
section
variable {s q:St} {e:Tr} {b:ND} {K:List KP} {k id mb:Nat} {B:List (Nat×Box)}
theorem s13 (hb:b.Ok) (hn:nodesN b < 2^62) (H:Hp s q s.en [] ((id,.row 60 (BX (K.map KP.av)) false 0)::(mb,.cells 47 b.cells)::B)) (hT:TOk K) (hk:k < K.length) (hF:FOk ((K.set k noK).map KP.f)) (hh:C6 ((K.set k noK).map KP.f) b=true)
    (g3:e.get 3=.i .i64 (k:Nat)) (g5:e.get 5=.p mb 0) (g12:e.get 12=.bl id 6 0 K.length (K.length*6,false)):W (lim Ba) (rr 13) e q (KW21 s):=by
 obtain ⟨q6,d6,H6,_⟩:=H.strw 0 (off:=k*6) (m:=6) (v:=.agg [.b false,.i .u8 0,.nsl,.nsl,.i .i64 0,.i .i64 0]) rfl (by rw [HO]; omega) ⟨rfl,rfl⟩
 have hs:=UL (g:=noK) hk
 have H7:Hp s q6 s.en [] ((id,.row 60 (BX ((K.set k noK).map KP.av)) false 0)::(mb,.cells 47 b.cells)::B):=by
  rw [← hs]; exact H6
 have lb:=H7.ldw (m:=4) 1 rfl rfl
 have hfx:=OW (x:=(K.length*6,false)) (H7.box (i:=0) rfl).1 (hT.set noK_ok k)
 have hcall:=Jh hfx hF hb hn
 rw [hh,List.length_set] at hcall
 have hlt:(k < K.length)=True:=eq_true hk
 show W _ (subC AE.body [1,1,1,1,1,1,1,1,1,1,1,1,1]) _ _ (KF s _ _ (.b true))
 simp only [AE,subC,go_sem,AD,AA,AC,AB,KB_n,KB_x,Nat.reduceBEq,Nat.reduceAdd,Nat.reduceLT,Nat.reduceLeDiff,Nat.reduceEqDiff,reduceIte,Int.reduceEq,reduceCtorEq,g3,g5,g12,R8,AJ,hlt,Nat.zero_add,d6,lb,AR,hcall]
 exact AQ H7.over rfl rfl
theorem s12 {l:List FT} {f:FT} (hb:b.Ok) (hn:nodesN b < 2^62) (H:Hp s q s.en [] ((id,.row 60 (BX (K.map KP.av)) false 0)::(mb,.cells 47 b.cells)::B)) (hT:TOk K) (hk:k < K.length) (hf:l[k]? = some f)
    (hh:f.names=[]→FOk ((K.set k noK).map KP.f)∧C6 ((K.set k noK).map KP.f) b=true)
    (g2:e.get 2=fx l) (g3:e.get 3=.i .i64 (k:Nat)) (g5:e.get 5=.p mb 0) (g12:e.get 12=.bl id 6 0 K.length (K.length*6,false)):W (lim Ba) (rr 12) e q (KW21 s):=by
 have hget:(l.map FT.av)[k]? = some (.agg f.cells):=by rw [List.getElem?_map,hf]; rfl
 have l2:ldA q false 1 (.ep f.cells 2 .shut)=some (tx f.names):=rfl
 have hr:∀ e,e.get 3=.i .i64 (k:Nat)→e.get 5=.p mb 0→e.get 12=.bl id 6 0 K.length (K.length*6,false)→f.names=[]→W (lim Ba) (rr 13) e q (KW21 s):=fun e g3 g5 g12 h0 =>
  s13 hb hn H hT hk (hh h0).1 (hh h0).2 g3 g5 g12
 show W _ (.seq (subC AE.body [1,1,1,1,1,1,1,1,1,1,1,1,0]) (rr 13)) _ _ _
 generalize rr 13=X at hr
 unfold fx at g2
 unfold KW21 at hr ⊢
 rcases Classical.propComplete (0 < f.names.length) with h0 | h0
 · have e1:((0:Int) < (f.names.length:Int))=True:=eq_true (by have:=h0 ▸ trivial; omega)
   simp only [AE,subC,go_sem,AD,AA,AC,AB,KB_n,KB_x,Nat.reduceBEq,Nat.reduceAdd,Nat.reduceLT,Nat.reduceLeDiff,Nat.reduceEqDiff,reduceIte,Int.reduceEq,reduceCtorEq,g2,g3,g5,g12,Wm,AJ,hget,Cn,l2,List.length_map,e1]
   exact AQ H.over rfl rfl
 · have hnl:¬ 0 < f.names.length:=fun h=>by rw [h0] at h; exact h
   have e1:((0:Int) < (f.names.length:Int))=False:=eq_false (by omega)
   simp only [AE,subC,go_sem,AD,AA,AC,AB,KB_n,KB_x,Nat.reduceBEq,Nat.reduceAdd,Nat.reduceLT,Nat.reduceLeDiff,Nat.reduceEqDiff,reduceIte,Int.reduceEq,reduceCtorEq,g2,g3,g5,g12,Wm,AJ,hget,Cn,l2,List.length_map,e1]
   refine hr _ ?_ ?_ ?_ (List.length_eq_zero_iff.1 (by omega))<;>simp only [go_sem,AD,AA,AC,AB,KB_n,KB_x,Nat.reduceBEq,Nat.reduceAdd,Nat.reduceLT,Nat.reduceLeDiff,Nat.reduceEqDiff,reduceIte,Int.reduceEq,reduceCtorEq,g3,g5,g12]
theorem s11 {l:List FT} {f:FT} (hb:b.Ok) (hn:nodesN b < 2^62) (H:Hp s q s.en [] ((id,.row 60 (BX (K.map KP.av)) false 0)::(mb,.cells 47 b.cells)::B)) (hT:TOk K) (hk:k < K.length) (hf:l[k]? = some f)
    (hF:FOk (K.map KP.f)) (h1:C6 (K.map KP.f) b=true) (hh:f.names=[]→FOk ((K.set k noK).map KP.f)∧C6 ((K.set k noK).map KP.f) b=true)
    (g2:e.get 2=fx l) (g3:e.get 3=.i .i64 (k:Nat)) (g5:e.get 5=.p mb 0) (g12:e.get 12=.bl id 6 0 K.length (K.length*6,false)):W (lim Ba) (rr 11) e q (KW21 s):=by
 have lb:=H.ldw (m:=4) 1 rfl rfl
 have hcall:=Jh (OW (x:=(K.length*6,false)) (H.box (i:=0) rfl).1 hT) hF hb hn
 rw [h1] at hcall
 have hr:∀ e,e.get 2=fx l→e.get 3=.i .i64 (k:Nat)→e.get 5=.p mb 0→e.get 12=.bl id 6 0 K.length (K.length*6,false)→W (lim Ba) (rr 12) e q (KW21 s):=fun e g2 g3 g5 g12 =>
  s12 hb hn H hT hk hf hh g2 g3 g5 g12
 show W _ (.seq (subC AE.body [1,1,1,1,1,1,1,1,1,1,1,0]) (rr 12)) _ _ _
 generalize rr 12=X at hr
 simp only [AE,subC,go_sem,AD,AA,AC,AB,KB_n,KB_x,Nat.reduceBEq,Nat.reduceAdd,Nat.reduceLT,Nat.reduceLeDiff,Nat.reduceEqDiff,reduceIte,Int.reduceEq,reduceCtorEq,g5,g12,lb,AR,hcall]
 refine hr _ ?_ ?_ ?_ ?_<;>simp only [go_sem,AD,AA,AC,AB,KB_n,KB_x,Nat.reduceBEq,Nat.reduceAdd,Nat.reduceLT,Nat.reduceLeDiff,Nat.reduceEqDiff,reduceIte,Int.reduceEq,reduceCtorEq,g2,g3,g5,g12]
theorem s9 {l:List FT} {f:FT} {a:AV} (hb:b.Ok) (hn:nodesN b < 2^62) (H:Hp s q s.en [⟨6,60,a,l.map FT.av,true⟩] ((mb,.cells 47 b.cells)::B)) (ha:Av a≠none) (hf:l[k]? = some f) (ho:FOk l) (h0:C6 l b=true) (h1:1≤k)
    (g2:e.get 2=fx l) (g3:e.get 3=.i .i64 (k:Nat)) (g5:e.get 5=.p mb 0) (g12:e.get 12=a):W (lim Ba) (rr 9) e q (KW21 s):=by
 have hk:=(List.getElem?_eq_some_iff.1 hf).1
 obtain ⟨q2,d2,H2,_⟩:=H.thaw 0 rfl ha [] (by simp) (by simp)
 rw [← ofF_av] at H2 d2
 have hKl:(l.map ofF).length=l.length:=List.length_map ..
 have hKk:(l.map ofF)[k]? = some (ofF f):=by rw [List.getElem?_map,hf]; rfl
 have hT:=ofF_ok l
 have hKf:=ofF_f l
 generalize hK:l.map ofF=K at *
 generalize hid:q.nb=id at d2 H2
 rw [List.length_map] at d2
 have hlt:(k < K.length)=True:=eq_true (by omega)
 obtain ⟨q3,d3,H3⟩:=H2.stR 0 (off:=k*6+4) (v:=.i .i64 0) rfl (by rw [HO]; omega) ⟨rfl,rfl⟩
 have hs3:=NF (j:=4) (v:=.i .i64 0) (g:=⟨{ f with rest:=0 },tx f.names,zx f.kids⟩) hKk (by omega) rfl
 rw [hs3,List.set_cons_zero] at H3
 have hK2:(K.set k ⟨{ f with rest:=0 },tx f.names,zx f.kids⟩)[k]? = some ⟨{ f with rest:=0 },tx f.names,zx f.kids⟩:=by
  rw [List.getElem?_set,if_pos rfl,if_pos (by omega)]
 obtain ⟨q4,d4,H4⟩:=H3.stR 0 (off:=k*6+5) (v:=.i .i64 0) rfl (by rw [HO,List.length_set]; omega) ⟨rfl,rfl⟩
 have hs4:=NF (j:=5) (v:=.i .i64 0) (g:=⟨{ f with rest:=0,beside:=0 },tx f.names,zx f.kids⟩) hK2 (by omega) rfl
 rw [hs4,List.set_cons_zero,List.set_set] at H4
 have hKs:(K.set k ⟨{ f with rest:=0,beside:=0 },tx f.names,zx f.kids⟩).map KP.f=l.set k { f with rest:=0,beside:=0 }:=by
  rw [List.map_set,hKf]
 have hKn:((K.set k ⟨{ f with rest:=0,beside:=0 },tx f.names,zx f.kids⟩).set k noK).map KP.f=l.set k noF:=by
  rw [List.set_set,List.map_set,hKf]; rfl
 have hfo:=ho.ok f (List.mem_of_getElem? hf)
 have hr:∀ e,e.get 2=fx l→e.get 3=.i .i64 (k:Nat)→e.get 5=.p mb 0→e.get 12=.bl id 6 0 K.length (K.length*6,false)→W (lim Ba) (rr 11) e q4 (KW21 s):=fun e g2 g3 g5 g12 =>
  s11 (K:=K.set k ⟨{ f with rest:=0,beside:=0 },tx f.names,zx f.kids⟩) hb hn H4 (hT.set (fun p hp=>by simp only [List.mem_singleton] at hp; subst hp; exact ⟨.ws,.ws⟩) k) (by rw [List.length_set]; omega) hf
   (by rw [hKs]; exact ho.set hf ⟨hfo.kind,hfo.names,hfo.nlen,hfo.klen⟩ (Nat.le_refl _)) (by rw [hKs]; exact Vx h0 hf h1)
   (fun hnm=>by rw [hKn]; exact ⟨ho.set hf ⟨by decide,by simp [noF],by simp [noF],by simp [noF]⟩ (by simp [noF]),Vy h0 hf h1 hnm⟩) g2 g3 g5 (by rw [List.length_set]; exact g12)
 show W _ (.seq (subC AE.body [1,1,1,1,1,1,1,1,1,0]) (.seq (subC AE.body [1,1,1,1,1,1,1,1,1,1,0]) (rr 11))) _ _ _
 generalize rr 11=X at hr
 simp only [AE,subC,go_sem,AD,AA,AC,AB,KB_n,KB_x,Nat.reduceBEq,Nat.reduceAdd,Nat.reduceLT,Nat.reduceLeDiff,Nat.reduceEqDiff,reduceIte,Int.reduceEq,reduceCtorEq,g3,g12,d2,R8,AJ,hlt,Nat.zero_add,d3,d4]
 refine hr _ ?_ ?_ ?_ ?_<;>simp only [go_sem,AD,AA,AC,AB,KB_n,KB_x,Nat.reduceBEq,Nat.reduceAdd,Nat.reduceLT,Nat.reduceLeDiff,Nat.reduceEqDiff,reduceIte,Int.reduceEq,reduceCtorEq,g2,g3,g5]
theorem s8 {l:List FT} {f:FT} (hb:b.Ok) (hn:nodesN b < 2^62) (H:Hp s q s.en [] ((mb,.cells 47 b.cells)::B)) (hf:l[k]? = some f) (ho:FOk l) (h0:C6 l b=true) (h1:1≤k)
    (g2:e.get 2=fx l) (g3:e.get 3=.i .i64 (k:Nat)) (g5:e.get 5=.p mb 0):W (lim Ba) (rr 8) e q (KW21 s):=by
 have hk:=(List.getElem?_eq_some_iff.1 hf).1
 have hlen:=ho.len
 obtain ⟨a,q2,d2,H2,_,hne⟩:=H.appN (es:=6) 60 (a:=.sl 6 [] .full) (xs:=[]) (y:=fx l) (ys:=l.map FT.av) .mt (by simp [fx,elems]) (by simp; omega)
 have hr:∀ e,e.get 2=fx l→e.get 3=.i .i64 (k:Nat)→e.get 5=.p mb 0→e.get 12=a→W (lim Ba) (rr 9) e q2 (KW21 s):=fun e g2 g3 g5 g12 =>
  s9 hb hn H2 (hne (by intro h; have:=congrArg List.length h; rw [List.length_map,List.length_nil] at this; omega)).1 hf ho h0 h1 g2 g3 g5 g12
 have hal0:Ac 6 []=true:=rfl
 have le16:(1≤6)=True:=eq_true (by omega)
 show W _ (.seq (subC AE.body [1,1,1,1,1,1,1,1,0]) (rr 9)) _ _ _
 generalize rr 9=X at hr
 unfold fx at g2 d2 hr
 simp only [AE,subC,go_sem,AD,AA,AC,AB,KB_n,KB_x,Nat.reduceBEq,Nat.reduceAdd,Nat.reduceLT,Nat.reduceLeDiff,Nat.reduceEqDiff,reduceIte,Int.reduceEq,reduceCtorEq,g2,hal0,le16,d2]
 refine hr _ ?_ ?_ ?_ ?_<;>simp only [go_sem,AD,AA,AC,AB,KB_n,KB_x,Nat.reduceBEq,Nat.reduceAdd,Nat.reduceLT,Nat.reduceLeDiff,Nat.reduceEqDiff,reduceIte,Int.reduceEq,reduceCtorEq,g2,g3,g5]
theorem s7 {l:List FT} {n:Int} {h:Bool} (hb:b.Ok) (hn:nodesN b < 2^62) (H:Hp s q s.en [] ((mb,.cells 47 b.cells)::B)) (ho:FOk l) (h0:C6 l b=h)
    (g2:e.get 2=fx l) (g3:e.get 3=.i .i64 n) (g5:e.get 5=.p mb 0) (g11:e.get 11=.b h):W (lim Ba) (rr 7) e q (KW21 s):=by
 have hr:∀ e,h=true→1≤n→n < (l.length:Int)→e.get 2=fx l→e.get 3=.i .i64 n→e.get 5=.p mb 0→W (lim Ba) (rr 8) e q (KW21 s):=fun e hh h1 h2 g2 g3 g5=>by
  obtain ⟨k,rfl⟩:∃ k:Nat,n=(k:Int):=⟨n.toNat,by omega⟩
  exact s8 hb hn H (List.getElem?_eq_getElem (by omega)) ho (by rw [h0]; exact hh) (by omega) g2 g3 g5
 show W _ (.seq (subC AE.body [1,1,1,1,1,1,1,0]) (rr 8)) _ _ _
 generalize rr 8=X at hr
 unfold KW21 at hr ⊢
 unfold fx at g2 hr
 cases h with
 | false =>
   simp only [AE,subC,go_sem,AD,AA,AC,AB,KB_n,KB_x,Nat.reduceBEq,Nat.reduceAdd,Nat.reduceLT,Nat.reduceLeDiff,Nat.reduceEqDiff,reduceIte,Int.reduceEq,reduceCtorEq,g2,g3,g5,g11]
   exact AQ H.over rfl rfl
 | true =>
   by_cases c1:n < 1
   · have e1:(n < 1)=True:=eq_true c1
     simp only [AE,subC,go_sem,AD,AA,AC,AB,KB_n,KB_x,Nat.reduceBEq,Nat.reduceAdd,Nat.reduceLT,Nat.reduceLeDiff,Nat.reduceEqDiff,reduceIte,Int.reduceEq,reduceCtorEq,g2,g3,g5,g11,e1]
     exact AQ H.over rfl rfl
   · have e1:(n < 1)=False:=eq_false c1
     by_cases c2:(l.length:Int)≤n
     · have e2:((l.length:Int)≤n)=True:=eq_true c2
       simp only [AE,subC,go_sem,AD,AA,AC,AB,KB_n,KB_x,Nat.reduceBEq,Nat.reduceAdd,Nat.reduceLT,Nat.reduceLeDiff,Nat.reduceEqDiff,reduceIte,Int.reduceEq,reduceCtorEq,g2,g3,g5,g11,e1,e2,List.length_map]
       exact AQ H.over rfl rfl
     · have e2:((l.length:Int)≤n)=False:=eq_false c2
       simp only [AE,subC,go_sem,AD,AA,AC,AB,KB_n,KB_x,Nat.reduceBEq,Nat.reduceAdd,Nat.reduceLT,Nat.reduceLeDiff,Nat.reduceEqDiff,reduceIte,Int.reduceEq,reduceCtorEq,g2,g3,g5,g11,e1,e2,List.length_map]
       refine hr _ rfl (by omega) (by omega) ?_ ?_ ?_<;>simp only [go_sem,AD,AA,AC,AB,KB_n,KB_x,Nat.reduceBEq,Nat.reduceAdd,Nat.reduceLT,Nat.reduceLeDiff,Nat.reduceEqDiff,reduceIte,Int.reduceEq,reduceCtorEq,g2,g3,g5]
theorem s6 {l:List FT} {n:Int} {h:Bool} (hb:b.Ok) (hm:mayN b=true) (hn:nodesN b < 2^62) (H:Hp s q s.en [] ((mb,.cells 47 b.cells)::B)) (ho:FOk l) (h0:C6 l b=h)
    (g2:e.get 2=fx l) (g3:e.get 3=.i .i64 n) (g5:e.get 5=.p mb 0) (g11:e.get 11=.b h):W (lim Ba) (rr 6) e q (KW21 s):=by
 have hr:∀ e,e.get 2=fx l→e.get 3=.i .i64 n→e.get 5=.p mb 0→e.get 11=.b h→W (lim Ba) (rr 7) e q (KW21 s):=fun e g2 g3 g5 g11=>s7 hb hn H ho h0 g2 g3 g5 g11
 have lb:=H.ldw (m:=4) 0 rfl rfl
 have hB:=PW b hb (Df hm) q H.wf
 have hcall:=Jh (KZ l q) ho (PZ b hb) (by rw [MJ]; exact hn)
 rw [RU l hm,h0] at hcall
 show W _ (.seq (subC AE.body [1,1,1,1,1,1,0]) (rr 7)) _ _ _
 generalize rr 7=X at hr
 unfold fx at g2 hr hcall
 cases h <;>
  (simp only [AE,subC,go_sem,AD,AA,AC,AB,KB_n,KB_x,Nat.reduceBEq,Nat.reduceAdd,Nat.reduceLT,Nat.reduceLeDiff,Nat.reduceEqDiff,reduceIte,Int.reduceEq,reduceCtorEq,g2,g3,g5,g11,lb,AR,hB,hcall]
   refine hr _ ?_ ?_ ?_ ?_<;>simp only [go_sem,AD,AA,AC,AB,KB_n,KB_x,Nat.reduceBEq,Nat.reduceAdd,Nat.reduceLT,Nat.reduceLeDiff,Nat.reduceEqDiff,reduceIte,Int.reduceEq,reduceCtorEq,g2,g3,g5,g11])
theorem s5 {l:List FT} {n:Int} (hb:b.Ok) (hm:mayN b=true) (hn:nodesN b < 2^62) (H:Hp s q s.en [] ((mb,.cells 47 b.cells)::B)) (ho:FOk l)
    (g2:e.get 2=fx l) (g3:e.get 3=.i .i64 n) (g5:e.get 5=.p mb 0):W (lim Ba) (rr 5) e q (KW21 s):=by
 have hr:∀ e,e.get 2=fx l→e.get 3=.i .i64 n→e.get 5=.p mb 0→e.get 11=.b (C6 l b)→W (lim Ba) (rr 6) e q (KW21 s):=fun e g2 g3 g5 g11=>s6 hb hm hn H ho rfl g2 g3 g5 g11
 have lb:=H.ldw (m:=4) 0 rfl rfl
 have hcall:=Jh (KZ l q) ho hb hn
 show W _ (.seq (subC AE.body [1,1,1,1,1,0]) (rr 6)) _ _ _
 generalize rr 6=X at hr
 unfold fx at g2 hr hcall
 simp only [AE,subC,go_sem,AD,AA,AC,AB,KB_n,KB_x,Nat.reduceBEq,Nat.reduceAdd,Nat.reduceLT,Nat.reduceLeDiff,Nat.reduceEqDiff,reduceIte,Int.reduceEq,reduceCtorEq,g2,g3,g5,lb,AR,hcall]
 refine hr _ ?_ ?_ ?_ ?_<;>simp only [go_sem,AD,AA,AC,AB,KB_n,KB_x,Nat.reduceBEq,Nat.reduceAdd,Nat.reduceLT,Nat.reduceLeDiff,Nat.reduceEqDiff,reduceIte,Int.reduceEq,reduceCtorEq,g2,g3,g5]
end
end Go.Proofs.Ytgloinighjdhlaa

namespace Go.Proofs.Ytgloinighjdhlaa
open Go.Proofs.Ytgloinighjdhlaa.Am
attribute [local irreducible] W WO WE WQ WD Tr.get Tr.set
section
variable {s q:St} {e:Tr} {a b:ND} {l:List FT} {n:Int} {ma mb:Nat}
theorem s4 (ha:a.Ok) (hb:b.Ok) (hma:mayN a=true) (hmb:mayN b=true) (hna:nodesN a < 2^62) (hn:nodesN b < 2^62) (hA:FOk (allF a 0)) (H:Hp s q s.en [] [(mb,.cells 47 b.cells),(ma,.cells 47 a.cells)]) (ho:FOk l)
    (g2:e.get 2=fx l) (g3:e.get 3=.i .i64 n) (g4:e.get 4=.p ma 0) (g5:e.get 5=.p mb 0) (g9:e.get 9=fx (allF a 0)):W (lim Ba) (rr 4) e q (KW21 s):=by
 have hr:∀ e,e.get 2=fx l→e.get 3=.i .i64 n→e.get 5=.p mb 0→W (lim Ba) (rr 5) e q (KW21 s):=fun e g2 g3 g5=>s5 hb hmb hn H ho g2 g3 g5
 have la:=H.ldw (m:=4) 1 rfl rfl
 have lb:=H.ldw (m:=4) 0 rfl rfl
 obtain ⟨h1,h2⟩:=WA hma
 have c1:=d_may (s:=q) (allF a 0) hA
 rw [h1] at c1
 have c2:=Jh (KZ (allF a 0) q) hA ha hna
 rw [h2] at c2
 have c3:=Jh (KZ (allF a 0) q) hA hb hn
 have c4:=PW a ha (Df hma) q H.wf
 have c5:=PW b hb (Df hmb) q H.wf
 obtain ⟨r,c6,h6⟩:=YY (s:=q) (PZ a ha) (PZ b hb)
 have h7:C6 (allF a 0) b=r:=by
  have:=UK hma hmb
  rw [← h6] at this
  exact Bool.eq_iff_iff.2 this
 rw [h7] at c3
 have sa:=TQ a
 have sb:=TQ b
 show W _ (.seq (subC AE.body [1,1,1,1,0]) (rr 5)) _ _ _
 generalize rr 5=X at hr
 unfold fx at g9 c1 c2 c3
 cases r <;>
  (simp only [AE,subC,go_sem,AD,AA,AC,AB,KB_n,KB_x,Nat.reduceBEq,Nat.reduceAdd,Nat.reduceLT,Nat.reduceLeDiff,Nat.reduceEqDiff,reduceIte,Int.reduceEq,reduceCtorEq]
   refine QM rfl ?_
   simp only [go_sem,AD,AA,AC,AB,KB_n,KB_x,Nat.reduceBEq,Nat.reduceAdd,Nat.reduceLT,Nat.reduceLeDiff,Nat.reduceEqDiff,reduceIte,Int.reduceEq,reduceCtorEq,g4,g5,g9,la,lb,AR,ntN,c1,c2,c3,c4,c5,c6]
   refine S5 rfl ?_ sa ⟨⟨_,rfl,la⟩,⟨_,rfl,la⟩,⟨_,rfl,la⟩,trivial⟩ (S5 rfl ?_ sb ⟨⟨_,rfl,lb⟩,⟨_,rfl,lb⟩,⟨_,rfl,lb⟩,⟨_,rfl,lb⟩,⟨_,rfl,lb⟩,trivial⟩ (QN ?_))
   · simp only [go_sem,AD,AA,AC,AB,KB_n,KB_x,Nat.reduceBEq,Nat.reduceAdd,Nat.reduceLT,Nat.reduceLeDiff,Nat.reduceEqDiff,reduceIte,Int.reduceEq,reduceCtorEq,g4]
   · simp only [go_sem,AD,AA,AC,AB,KB_n,KB_x,Nat.reduceBEq,Nat.reduceAdd,Nat.reduceLT,Nat.reduceLeDiff,Nat.reduceEqDiff,reduceIte,Int.reduceEq,reduceCtorEq,g5]
   simp only [go_sem,AD,AA,AC,AB,KB_n,KB_x,Nat.reduceBEq,Nat.reduceAdd,Nat.reduceLT,Nat.reduceLeDiff,Nat.reduceEqDiff,reduceIte,Int.reduceEq,reduceCtorEq]
   refine hr _ ?_ ?_ ?_<;>simp only [go_sem,AD,AA,AC,AB,KB_n,KB_x,Nat.reduceBEq,Nat.reduceAdd,Nat.reduceLT,Nat.reduceLeDiff,Nat.reduceEqDiff,reduceIte,Int.reduceEq,reduceCtorEq,g2,g3,g5])
theorem s3 (ha:a.Ok) (hb:b.Ok) (hna:nodesN a < 2^62) (hn:nodesN b < 2^62) (hA:FOk (allF a 0)) (H:Hp s q s.en [] [(mb,.cells 47 b.cells),(ma,.cells 47 a.cells)]) (ho:FOk l)
    (g2:e.get 2=fx l) (g3:e.get 3=.i .i64 n) (g4:e.get 4=.p ma 0) (g5:e.get 5=.p mb 0) (g9:e.get 9=if mayN a then fx (allF a 0) else fx []) (g10:e.get 10=.i .i64 (if mayN a then 0 else 4)):W (lim Ba) (rr 3) e q (KW21 s):=by
 have hr:∀ e,mayN a=true→mayN b=true→e.get 2=fx l→e.get 3=.i .i64 n→e.get 4=.p ma 0→e.get 5=.p mb 0→e.get 9=(if mayN a then fx (allF a 0) else fx [])→W (lim Ba) (rr 4) e q (KW21 s):=fun e h1 h2 g2 g3 g4 g5 g9=>s4 ha hb h1 h2 hna hn hA H ho g2 g3 g4 g5 (by rw [g9,h1]; rfl)
 have la:=H.ldw (m:=4) 1 rfl rfl
 have lb:=H.ldw (m:=4) 0 rfl rfl
 have c1:=Wj (s:=q) ha hna
 have c2:=Wj (s:=q) hb hn
 show W _ (.seq (subC AE.body [1,1,1,0]) (rr 4)) _ _ _
 generalize rr 4=X at hr
 unfold KW21 at hr ⊢
 have e40:decide ((4:Int)≠0)=true:=rfl
 have e00:decide ((0:Int)≠0)=false:=rfl
 cases h1:mayN a with
 | false =>
   rw [h1] at c1 g10
   simp only [AE,subC,go_sem,AD,AA,AC,AB,KB_n,KB_x,Nat.reduceBEq,Nat.reduceAdd,Nat.reduceLT,Nat.reduceLeDiff,Nat.reduceEqDiff,reduceIte,Int.reduceEq,reduceCtorEq,g4,g5,g10,la,lb,AR,c1,e40]
   exact AQ H.over rfl rfl
 | true =>
   rw [h1] at c1 g10
   cases h2:mayN b with
   | false =>
     rw [h2] at c2
     simp only [AE,subC,go_sem,AD,AA,AC,AB,KB_n,KB_x,Nat.reduceBEq,Nat.reduceAdd,Nat.reduceLT,Nat.reduceLeDiff,Nat.reduceEqDiff,reduceIte,Int.reduceEq,reduceCtorEq,g4,g5,g10,la,lb,AR,c1,c2,e00]
     exact AQ H.over rfl rfl
   | true =>
     rw [h2] at c2
     simp only [AE,subC,go_sem,AD,AA,AC,AB,KB_n,KB_x,Nat.reduceBEq,Nat.reduceAdd,Nat.reduceLT,Nat.reduceLeDiff,Nat.reduceEqDiff,reduceIte,Int.reduceEq,reduceCtorEq,g4,g5,g10,la,lb,AR,c1,c2,e00]
     refine hr _ h1 h2 ?_ ?_ ?_ ?_ ?_<;>simp only [go_sem,AD,AA,AC,AB,KB_n,KB_x,Nat.reduceBEq,Nat.reduceAdd,Nat.reduceLT,Nat.reduceLeDiff,Nat.reduceEqDiff,reduceIte,Int.reduceEq,reduceCtorEq,g2,g3,g4,g5,g9]
theorem s2 (ha:a.Ok) (hb:b.Ok) (hna:DQ a < 2^30) (hn:nodesN b < 2^62) (H:Hp s q s.en [] [(mb,.cells 47 b.cells),(ma,.cells 47 a.cells)]) (ho:FOk l)
    (g2:e.get 2=fx l) (g3:e.get 3=.i .i64 n) (g4:e.get 4=.p ma 0) (g5:e.get 5=.p mb 0):W (lim Ba) (rr 2) e q (KW21 s):=by
 have hnb:=Jd a
 have hr:∀ e,e.get 2=fx l→e.get 3=.i .i64 n→e.get 4=.p ma 0→e.get 5=.p mb 0→e.get 9=(if mayN a then fx (allF a 0) else fx [])→e.get 10=.i .i64 (if mayN a then 0 else 4)→W (lim Ba) (rr 3) e q (KW21 s):=fun e g2 g3 g4 g5 g9 g10=>s3 ha hb (by omega) hn (Yc ha (by omega)) H ho g2 g3 g4 g5 g9 g10
 have la:=H.ldw (m:=4) 1 rfl rfl
 have hAll:=all_ok a ha (by omega) q H.wf
 show W _ (.seq (subC AE.body [1,1,0]) (rr 3)) _ _ _
 generalize rr 3=X at hr
 generalize (if mayN a then fx (allF a 0) else fx [])=V1 at *
 generalize (if mayN a then (0:Int) else 4)=V2 at *
 simp only [AE,subC,go_sem,AD,AA,AC,AB,KB_n,KB_x,Nat.reduceBEq,Nat.reduceAdd,Nat.reduceLT,Nat.reduceLeDiff,Nat.reduceEqDiff,reduceIte,Int.reduceEq,reduceCtorEq,g4,la,AR,hAll]
 refine hr _ ?_ ?_ ?_ ?_ ?_ ?_<;>simp only [go_sem,AD,AA,AC,AB,KB_n,KB_x,Nat.reduceBEq,Nat.reduceAdd,Nat.reduceLT,Nat.reduceLeDiff,Nat.reduceEqDiff,reduceIte,Int.reduceEq,reduceCtorEq,g2,g3,g4,g5]
theorem s1 (ha:a.Ok) (hb:b.Ok) (hna:DQ a < 2^30) (hn:DQ b < 2^30) (H:Hp s q s.en [] [(mb,.cells 47 b.cells),(ma,.cells 47 a.cells)]) (ho:FOk l)
    (g2:e.get 2=fx l) (g3:e.get 3=.i .i64 n) (g4:e.get 4=.p ma 0) (g5:e.get 5=.p mb 0):W (lim Ba) (rr 1) e q (KW21 s):=by
 have hnb:=Jd b
 have hr:∀ e,e.get 2=fx l→e.get 3=.i .i64 n→e.get 4=.p ma 0→e.get 5=.p mb 0→W (lim Ba) (rr 2) e q (KW21 s):=fun e g2 g3 g4 g5=>s2 ha hb hna (by omega) H ho g2 g3 g4 g5
 have la:=H.ldw (m:=4) 1 rfl rfl
 have lb:=H.ldw (m:=4) 0 rfl rfl
 have hw:=Yd q
 obtain ⟨r,hm⟩:=d_many (s:=q) l ho
 obtain ⟨w1,h1⟩:=Qf (s:=q) ha (by omega)
 obtain ⟨w2,h2⟩:=Qf (s:=q) hb (by omega)
 show W _ (.seq (subC AE.body [1,0]) (rr 2)) _ _ _
 generalize rr 2=X at hr
 unfold KW21 at hr ⊢
 unfold fx at g2 hr hm
 cases r with
 | true =>
   simp only [AE,subC,go_sem,AD,AA,AC,AB,KB_n,KB_x,Nat.reduceBEq,Nat.reduceAdd,Nat.reduceLT,Nat.reduceLeDiff,Nat.reduceEqDiff,reduceIte,Int.reduceEq,reduceCtorEq,g2,g4,g5,la,lb,AR,hw,hm]
   exact AQ H.over rfl rfl
 | false =>
   rcases Classical.propComplete ((300:Int)≤(w1:Int)) with e1 | e1
   · simp only [AE,subC,go_sem,AD,AA,AC,AB,KB_n,KB_x,Nat.reduceBEq,Nat.reduceAdd,Nat.reduceLT,Nat.reduceLeDiff,Nat.reduceEqDiff,reduceIte,Int.reduceEq,reduceCtorEq,g2,g4,g5,la,lb,AR,hw,hm,h1,e1]
     exact AQ H.over rfl rfl
   · rcases Classical.propComplete ((300:Int)≤(w2:Int)) with e2 | e2
     · simp only [AE,subC,go_sem,AD,AA,AC,AB,KB_n,KB_x,Nat.reduceBEq,Nat.reduceAdd,Nat.reduceLT,Nat.reduceLeDiff,Nat.reduceEqDiff,reduceIte,Int.reduceEq,reduceCtorEq,g2,g4,g5,la,lb,AR,hw,hm,h1,h2,e1,e2]
       exact AQ H.over rfl rfl
     · simp only [AE,subC,go_sem,AD,AA,AC,AB,KB_n,KB_x,Nat.reduceBEq,Nat.reduceAdd,Nat.reduceLT,Nat.reduceLeDiff,Nat.reduceEqDiff,reduceIte,Int.reduceEq,reduceCtorEq,g2,g4,g5,la,lb,AR,hw,hm,h1,h2,e1,e2]
       refine hr _ ?_ ?_ ?_ ?_<;>simp only [go_sem,AD,AA,AC,AB,KB_n,KB_x,Nat.reduceBEq,Nat.reduceAdd,Nat.reduceLT,Nat.reduceLeDiff,Nat.reduceEqDiff,reduceIte,Int.reduceEq,reduceCtorEq,g2,g3,g4,g5]
end
theorem NG (a b:ND) (l:List FT) (n:Int) (ha:a.Ok) (hb:b.Ok) (ho:FOk l) (hna:DQ a < 2^30) (hn:DQ b < 2^30) (s:St) (hw:Wf s) :
    (lim Ba).call BF [.agg a.cells,.agg b.cells,fx l,.i .i64 n] s=some (.b true,s):=by
 refine fn_W p2_law rfl rfl ?_
 have hz0:wkZ AE.cin [.agg a.cells,.agg b.cells,fx l,.i .i64 n]=[.agg a.cells,.agg b.cells,fx l,.i .i64 n]:=by
  simp only [AE,wkZ,IA .ws,wk]
  simp [ND.cells,wkZ,wk,fx]
 rw [hz0]
 have H1:=(Hp.begin hw).new (.cells 47 a.cells)
 generalize hq1:s.enter.new (.cells 47 a.cells)=q1 at H1
 generalize hm1:s.enter.nb=m1 at H1
 have H2:=H1.new (.cells 47 b.cells)
 generalize hq2:q1.new (.cells 47 b.cells)=q2 at H2
 generalize hm2:q1.nb=m2 at H2
 have hr:∀ e,e.get 2=fx l→e.get 3=.i .i64 n→e.get 4=.p m1 0→e.get 5=.p m2 0→W (lim Ba) (rr 1) e q2 (KW21 s):=fun e g2 g3 g4 g5=>s1 ha hb hna hn H2 ho g2 g3 g4 g5
 unfold KW21 at hr
 show W _ (.seq (subC AE.body [0]) (rr 1)) _ _ _
 generalize rr 1=X at hr
 unfold fx at hr ⊢
 simp only [AE,subC,go_sem,AD,AA,AC,AB,KB_n,KB_x,Nat.reduceBEq,Nat.reduceAdd,Nat.reduceLT,Nat.reduceLeDiff,Nat.reduceEqDiff,reduceIte,Int.reduceEq,reduceCtorEq,Af,hq1,hm1,hq2,hm2] at hr ⊢
 refine hr _ ?_ ?_ ?_ ?_<;>simp only [go_sem,AD,AA,AC,AB,KB_n,KB_x,Nat.reduceBEq,Nat.reduceAdd,Nat.reduceLT,Nat.reduceLeDiff,Nat.reduceEqDiff,reduceIte,Int.reduceEq,reduceCtorEq]
end Go.Proofs.Ytgloinighjdhlaa

namespace Go.Proofs.Ytgloinighjdhlaa
open Go.Proofs.Ytgloinighjdhlaa.Am Go.Proofs
theorem Ye (hX:Ctx Try.prog gt prog) {f:Nat} {fn:Fun} (h:prog f=some fn) (hp:fn.prim=none):∃ F b,Try.prog.funcs[f]? = some F∧F.body=some b:=by
 obtain ⟨F,pops,raw,hF,hc⟩:=hX.fns f fn h hp
 obtain ⟨b,hb,_⟩:=Hu hc
 exact ⟨F,b,hF,hb⟩
theorem OX (hN:CK Try.prog) (hX:Ctx Try.prog gt prog) (cs:List CT) {f:Nat} {fn:Fun} (h:prog f=some fn) (hp:fn.prim=none):Sh Try.prog gt f (dlC cs f) :=
 .inr ⟨_,rfl,Uc hN hX (Ye hX h hp)⟩
theorem Yf (hN:CK Try.prog) (hX:Ctx Try.prog gt prog) (f:Nat) (fn:Fun) (h:Ba f=some fn):Sh Try.prog gt f fn:=by
 unfold Ba at h
 by_cases e:f=BF
 · rw [if_pos e] at h; subst e; cases h; exact MP _ _ Eu
 rw [if_neg e] at h; clear e
 by_cases e:f=EL
 · rw [if_pos e] at h; subst e; cases h; exact MP _ _ O2
 rw [if_neg e] at h; clear e
 by_cases e:f=Dk
 · rw [if_pos e] at h; subst e; cases h; exact MP _ _ O3
 rw [if_neg e] at h; clear e
 by_cases e:f=Ar
 · rw [if_pos e] at h; subst e; cases h; exact MP _ _ Gm
 rw [if_neg e] at h; clear e
 by_cases e:f=AO
 · rw [if_pos e] at h; subst e; cases h; exact MP _ _ CD
 rw [if_neg e] at h; clear e
 by_cases e:f=Al
 · rw [if_pos e] at h; subst e; cases h; exact OX hN hX _ GY rfl
 rw [if_neg e] at h; clear e
 by_cases e:f=Ai
 · rw [if_pos e] at h; subst e; cases h; exact OX hN hX _ D8 rfl
 rw [if_neg e] at h; clear e
 by_cases e:f=AX
 · rw [if_pos e] at h; subst e; cases h; exact OX hN hX _ Dw rfl
 rw [if_neg e] at h; clear e
 by_cases e:f=Ae
 · rw [if_pos e] at h; subst e; cases h; exact OX hN hX _ Ee rfl
 rw [if_neg e] at h; clear e
 by_cases e:f=Aa
 · rw [if_pos e] at h; subst e; cases h; exact OX hN hX _ D9 rfl
 rw [if_neg e] at h; clear e
 by_cases e:f=DK
 · rw [if_pos e] at h; subst e; cases h; exact OX hN hX _ N0 rfl
 rw [if_neg e] at h; clear e
 by_cases e:f=BG
 · rw [if_pos e] at h; subst e; cases h; exact OX hN hX _ Im rfl
 rw [if_neg e] at h; clear e
 by_cases e:f=Ch
 · rw [if_pos e] at h; subst e; cases h; exact OX hN hX _ LH rfl
 rw [if_neg e] at h; clear e
 cases h
end Go.Proofs.Ytgloinighjdhlaa
