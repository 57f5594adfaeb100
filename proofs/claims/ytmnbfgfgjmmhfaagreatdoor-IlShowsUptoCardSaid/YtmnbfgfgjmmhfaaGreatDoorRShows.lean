/-
  What an instruction that is handed in reads as. (Types' numbers: the seat of r11, .ZD.)
-/
import Derived.Test.YtmnbfgfgjmmhfaaGreatDoorAmSorted
import Derived.Test.YtmnbfgfgjmmhfaaGreatDoorLSLaw
import Derived.Test.YtmnbfgfgjmmhfaaGreatDoorProg
import Derived.KernelRfl
set_option linter.all false
set_option linter.unusedVariables false
set_option linter.unusedSimpArgs false
set_option linter.unusedSectionVars false
set_option maxRecDepth 100000
namespace Go.Proofs.YtmnbfgfgjmmhfaaGreatDoor
open Go.Proofs.YtmnbfgfgjmmhfaaGreatDoor.Am Go.Proofs
theorem Rz:QD Tryz.prog [4,5,9,22,23,25,76,78,85]=true:=by kernel_rfl
theorem rc25:Tryz.prog.cellsOf 25=4:=by kernel_rfl
theorem rc78:Tryz.prog.cellsOf 78=2:=by kernel_rfl
theorem rc85:Tryz.prog.cellsOf 85=3:=by kernel_rfl
theorem ru22:Tryz.prog.underlying 22=some (.slice 78):=by kernel_rfl
theorem ru23:Tryz.prog.underlying 23=some (.slice 25):=by kernel_rfl
theorem ru76:Tryz.prog.underlying 76=some (.slice 85):=by kernel_rfl
theorem ru9:Tryz.prog.underlying 9=some .string:=by kernel_rfl
theorem ru5:Tryz.prog.underlying 5=some (.int .u8):=by kernel_rfl
theorem ru4:Tryz.prog.underlying 4=some .bool:=by kernel_rfl
theorem Yu (a:AV):1≤szV a:=by cases a<;>simp [szV]
theorem OS:∀ L:List AV,L.length≤szL L
 | []=>Nat.le_refl _
 | a::L=>by
   have h1:=Yu a
   have:=OS L
   simp only [List.length_cons,szL]; omega
theorem Yv (F:IN→List (List Nat)):∀ (n:IN) (d:Nat),(allL n d).flatMap (fun x=>F x.2)=F n++(n.kids.map fun k=>(allL k 0).flatMap fun x=>F x.2).flatten:=by
 refine IN.ind fun n ih d=>?_
 rw [D9,List.flatMap_cons,List.flatMap_def,List.map_flatten,List.map_map,List.flatten_flatten,List.map_map]
 congr 2
 refine List.map_congr_left fun k hk=>?_
 have h1:=ih k hk (d+1)
 have h2:=ih k hk 0
 rw [← h2] at h1
 simp only [Function.comp]
 rw [← h1,List.flatMap_def]
theorem all_ok:∀ n:IN,n.Ok→∀ d,∀ x∈allL n d,x.2.Ok:=by
 refine IN.ind fun n ih ho d x hx=>?_
 rw [D9,List.mem_cons] at hx
 rcases hx with rfl | hx
 · exact ho
 · rw [List.mem_flatten] at hx
   obtain ⟨l,hl,hx⟩:=hx
   obtain ⟨k,hk,rfl⟩:=List.mem_map.1 hl
   exact ih k hk (ho.kids.1 k hk) (d+1) x hx
theorem Km {α:Type} (f:α→AV) (Pr:α→Prop) (bk:α→Nat) {t m:Nat} (h:∀ l,szV (mkV Tryz.prog t l)≤m→Typed Tryz.prog t l→∃ x,mkV Tryz.prog t l=f x∧Pr x∧bk x≤100*szV (mkV Tryz.prog t l)) :
    ∀ ls:List (List AV),(∀ l∈ls,Typed Tryz.prog t l)→szL (ls.map (mkV Tryz.prog t))≤m→∃ L:List α,ls.map (mkV Tryz.prog t)=L.map f∧L.length=ls.length∧(∀ x∈L,Pr x)∧(L.map bk).sum≤100*szL (ls.map (mkV Tryz.prog t))
 | [],_,_=>⟨[],rfl,rfl,by simp,by simp [szL]⟩
 | x::ls,hx,hs=>by
   simp only [List.map_cons,szL] at hs
   obtain ⟨n,n1,n2,n3⟩:=h x (by omega) (hx x (by simp))
   obtain ⟨L,k1,k2,k3,k4⟩:=Km f Pr bk h ls (fun l hl=>hx l (by simp [hl])) (by omega)
   refine ⟨n::L,by simp [n1,k1],by simp [k2],fun y hy=>?_,by simp only [List.map_cons,List.sum_cons,szL]; omega⟩
   rcases List.mem_cons.1 hy with rfl | hy
   · exact n2
   · exact k3 y hy
theorem Uo {l:List AV} {m:Nat} (hm:m < 2^30) (h:szV (mkV Tryz.prog 85 l)≤m) (ht:Typed Tryz.prog 85 l):∃ p:PT,mkV Tryz.prog 85 l=p.av∧p.Ok∧(Bx p).length≤100*szV (mkV Tryz.prog 85 l):=by
 have hF:=Ih Tryz.underlying85 ht
 rw [EO Tryz.underlying85] at h ⊢
 obtain ⟨a,r,rfl,h1,hF⟩:=DV hF
 obtain ⟨b,r,rfl,h2,hF⟩:=DV hF
 obtain ⟨c,r,rfl,h3,hF⟩:=DV hF
 obtain rfl:=LH hF
 obtain ⟨v,rfl⟩:=LG ru4 h1
 obtain ⟨t,rfl,htx⟩:=O7 ru9 h2
 obtain ⟨q,rfl⟩:=LG ru4 h3
 simp only [List.cons_append,List.nil_append,szV,szL] at h ⊢
 refine ⟨⟨v,t,q⟩,rfl,⟨htx,by simp only; omega⟩,?_⟩
 have:=Hd t (by omega)
 simp only [Bx,List.length_append,List.length_cons,List.length_nil]
 omega
theorem W7:∀ l:List PT,(l.flatMap Bx).length=(l.map fun p=>(Bx p).length).sum
 | []=>rfl
 | p::l=>by rw [List.flatMap_cons,List.length_append,W7 l]; rfl
theorem Uq {l:List AV} {m:Nat} (hm:m < 2^30) (h:szV (mkV Tryz.prog 78 l)≤m) (ht:Typed Tryz.prog 78 l):∃ y:IT,mkV Tryz.prog 78 l=y.av∧y.Ok∧(DQ y).length+1≤100*szV (mkV Tryz.prog 78 l):=by
 have hF:=Ih Tryz.underlying78 ht
 rw [EO Tryz.underlying78] at h ⊢
 obtain ⟨a,r,rfl,h1,hF⟩:=DV hF
 obtain ⟨b,r,rfl,h2,hF⟩:=DV hF
 obtain rfl:=LH hF
 obtain ⟨ls,rfl,hl1,hl2⟩:=Jd ru76 h1
 obtain ⟨v,rfl⟩:=LG ru4 h2
 rw [rc85] at h ⊢
 simp only [List.cons_append,List.nil_append,szV,szL] at h ⊢
 obtain ⟨L,k1,k2,k3,k4⟩:=Km PT.av PT.Ok (fun p=>(Bx p).length) (t:=85) (m:=m) (fun l h1 h2=>Uo hm h1 h2) ls hl2 (by omega)
 have hll:=OS (ls.map (mkV Tryz.prog 85))
 rw [List.length_map] at hll
 rw [← W7] at k4
 have hc:=Hd (L.flatMap Bx) (by omega)
 refine ⟨⟨L,v⟩,?_,⟨k3,by simp only; omega⟩,?_⟩
 · rw [k1]; rfl
 · simp only [DQ,List.length_cons]
   omega
def ownL (n:IN):Nat:=n.name.length+1+(n.items.map fun y=>(DQ y).length+1).sum
def totL (n:IN):Nat:=((allL n 0).flatMap fun x=>List.replicate (ownL x.2) ([]:List Nat)).length
def bkL (n:IN):Nat:=nodesI n+totL n
theorem Ur:∀ (l:List IN) (f g:IN→Nat),(l.map fun k=>f k+g k).sum=(l.map f).sum+(l.map g).sum
 | [],_,_=>rfl
 | a::l,f,g=>by simp only [List.map_cons,List.sum_cons,Ur l f g]; omega
theorem bkL_eq (n:IN):bkL n=1+ownL n+(n.kids.map bkL).sum:=by
 have h1:totL n=ownL n+(n.kids.map totL).sum:=by
  unfold totL
  rw [Yv (fun i=>List.replicate (ownL i) []),List.length_append,List.length_flatten,List.map_map,List.length_replicate]
  rfl
 have h2:(n.kids.map bkL).sum=(n.kids.map nodesI).sum+(n.kids.map totL).sum:=Ur n.kids nodesI totL
 have h3:(n.kids.map fun n=>nodesI n+totL n).sum=(n.kids.map nodesI).sum+(n.kids.map totL).sum:=h2
 unfold bkL
 rw [h1,Iq]
 omega
theorem own_le (n:IN):∀ x∈allL n 0,ownL x.2≤totL n:=fun x hx=>by
 unfold totL
 rw [List.length_flatMap]
 refine JJ (List.mem_map.2 ⟨x,hx,?_⟩)
 simp
theorem Yw:∀ (n:IN) (d:Nat),∀ x∈allL n d,x.1 < d+nodesI n:=by
 refine IN.ind fun n ih d x hx=>?_
 rw [D9,List.mem_cons] at hx
 have h0:=Iq n
 rcases hx with rfl | hx
 · simp only; omega
 · rw [List.mem_flatten] at hx
   obtain ⟨l,hl,hx⟩:=hx
   obtain ⟨k,hk,rfl⟩:=List.mem_map.1 hl
   have:=ih k hk (d+1) x hx
   have:=JK hk
   omega
theorem R0:∀ l:List (List Nat),(Mg l).length=(l.map fun w=>w.length+1).sum
 | []=>rfl
 | w::l=>by
   have:=R0 l
   simp only [Mg,List.flatMap_cons,List.length_append,List.length_cons,List.map_cons,List.sum_cons] at this ⊢
   omega
theorem WX (x:Nat×IN) (ht:QN x.2):(DJ x).length≤x.1+6+ownL x.2:=by
 obtain ⟨r,hr,_⟩:=ht
 have hw0:r.word.length≤6:=by
  unfold ruleK at hr
  split at hr<;>(try cases hr)<;>decide
 unfold DJ Rb ownL
 simp only [hr,Ir,List.length_append,List.length_replicate,R0,List.map_append,List.sum_append,List.map_map]
 have e:(x.2.items.map ((fun w:List Nat=>w.length+1)∘DQ)).sum=(x.2.items.map fun y=>(DQ y).length+1).sum:=rfl
 rw [e]
 split
 · simp; omega
 · simp; omega
theorem WY:∀ (m:Nat) {l:List AV},szV (mkV Tryz.prog 25 l)≤m→m < 2^30→Typed Tryz.prog 25 l→∃ n:IN,mkV Tryz.prog 25 l=n.av∧n.Ok∧bkL n≤100*szV (mkV Tryz.prog 25 l):=by
 intro m
 induction m with
 | zero =>
   intro l h _ ht
   rw [EO Tryz.underlying25] at h
   simp only [szV] at h; omega
 | succ m ih =>
   intro l h hm ht
   have hF:=Ih Tryz.underlying25 ht
   rw [EO Tryz.underlying25] at h ⊢
   obtain ⟨a,r,rfl,h1,hF⟩:=DV hF
   obtain ⟨b,r,rfl,h2,hF⟩:=DV hF
   obtain ⟨c,r,rfl,h3,hF⟩:=DV hF
   obtain ⟨d,r,rfl,h4,hF⟩:=DV hF
   obtain rfl:=LH hF
   obtain ⟨k,rfl,hk⟩:=Tw ru5 h1
   obtain ⟨t,rfl,htx⟩:=O7 ru9 h2
   obtain ⟨is,rfl,hi1,hi2⟩:=Jd ru22 h3
   obtain ⟨ls,rfl,hl1,hl2⟩:=Jd ru23 h4
   simp only [Lit.wf,Bool.and_eq_true,decide_eq_true_eq] at hk
   have e1:IntKind.u8.min=0:=rfl
   have e2:IntKind.u8.max=255:=rfl
   rw [e1,e2] at hk
   rw [rc25,rc78] at h ⊢
   simp only [List.cons_append,List.nil_append,szV,szL] at h
   obtain ⟨I,i1,i2,i3,i4⟩:=Km IT.av IT.Ok (fun y=>(DQ y).length+1) (t:=78) (m:=m) (fun l h1 h2=>Uq (by omega) h1 h2) is hi2 (by omega)
   obtain ⟨L,k1,k2,k3,k4⟩:=Km IN.av IN.Ok bkL (t:=25) (m:=m) (fun l h1 h2=>ih h1 (by omega) h2) ls hl2 (by omega)
   have hil:=OS (is.map (mkV Tryz.prog 78))
   rw [List.length_map] at hil
   have hll:=OS (ls.map (mkV Tryz.prog 25))
   rw [List.length_map] at hll
   refine ⟨.mk k.toNat t I L,?_,.mk (by omega) htx (by omega) i3 (by omega) k3 (by omega),?_⟩
   · rw [IN.av_eq,k1,i1]
     simp only [IN.cells,IN.kind,IN.name,IN.items,IN.kids,itx,List.cons_append,List.nil_append]
     rw [show ((k.toNat:Nat):Int)=k by omega]
   · rw [bkL_eq]
     unfold ownL
     simp only [IN.items,IN.kids,IN.name,List.cons_append,List.nil_append,szV,szL]
     omega
theorem Pq {l:List AV} (h:szV (mkV Tryz.prog 25 l)≤1048576) (ht:Typed Tryz.prog 25 l):∃ n:IN,mkV Tryz.prog 25 l=.agg n.cells∧n.Ok∧bkL n≤104857600:=by
 obtain ⟨n,h1,h2,h3⟩:=WY _ (Nat.le_refl _) (by omega) ht
 exact ⟨n,by rw [h1,IN.av_eq],h2,by omega⟩
theorem WZ:∀ {l:List IT} {y:IT},y∈l→(DQ y).length+1≤(l.map fun y=>(DQ y).length+1).sum:=fun h=>JJ (List.mem_map.2 ⟨_,h,rfl⟩)
def Yx (n:IN):Prop:=mayI n=true→∀ x∈allL n 0,x.2.Ok∧QN x.2∧x.1 < 2^30∧(∀ y∈x.2.items,(y.parts.flatMap Bx).length < 2^59)∧(DJ x).length≤2^47
theorem Wa (n:IN) (ho:n.Ok) (hb:bkL n≤104857600):Yx n:=by
 intro hm x hx
 unfold bkL at hb
 have h1:=own_le n x hx
 have h2:=Yw n 0 x hx
 have ht:mayI x.2=true:=PL (P:=fun k=>mayI k=true) (n:=n) (fun m h=>(Wv h).2) n hm 0 x hx
 have htop:=(Wv ht).1
 have hl:=WX x htop
 refine ⟨all_ok n ho 0 x hx,htop,by omega,fun y hy=>?_,by omega⟩
 have:=WZ hy
 have h3:(y.parts.flatMap Bx).length≤(DQ y).length:=by unfold DQ Bf; simp only [List.length_cons,List.length_append]; omega
 unfold ownL at h1
 omega
theorem Wb (l:List PT):l.length≤(l.flatMap Bx).length:=by
 induction l with
 | nil=>simp
 | cons p l ih =>
   rw [List.flatMap_cons,List.length_append,List.length_cons]
   have:2≤(Bx p).length:=by simp [Bx]
   omega
theorem Us (n:IN):(readsI n).length≤ownL n:=by
 unfold readsI ownL Cv
 have:∀ l:List IT,(l.flatMap fun x=>x.parts.filterMap Fe).length≤(l.map fun y=>(DQ y).length+1).sum:=by
  intro l
  induction l with
  | nil=>simp
  | cons y l ih =>
    rw [List.flatMap_cons,List.length_append,List.map_cons,List.sum_cons]
    have h1:=List.length_filterMap_le Fe y.parts
    have h2:=Wb y.parts
    have h3:(y.parts.flatMap Bx).length≤(DQ y).length:=by unfold DQ Bf; simp only [List.length_cons,List.length_append]; omega
    omega
 have:=this n.items
 omega
theorem Wc (n:IN):(setsX n).length≤ownL n:=by
 have:(setsX n).length≤1:=by unfold setsX; split<;>simp
 unfold ownL
 omega
theorem Ut {F:IN→List (List Nat)} (h:∀ n,(F n).length≤ownL n) (n:IN):(allF F n).length≤totL n:=by
 unfold allF totL
 generalize allL n 0=l
 induction l with
 | nil=>simp
 | cons x l ih =>
   rw [List.flatMap_cons,List.length_append,List.flatMap_cons,List.length_append,List.length_replicate]
   have:=h x.2
   omega
theorem R2 (n:IN) (h:n.Ok∧bkL n≤104857600):ShowsOk n:=by
 have hb:=h.2
 unfold bkL at hb
 have h1:=Ut Us n
 have h2:=Ut Wc n
 exact ⟨h.1,by omega,Wa n h.1 h.2,by omega,by omega⟩
theorem Qh (a b:IN) (ha:a.Ok∧bkL a≤104857600) (hb:b.Ok∧bkL b≤104857600) (s:St) (hw:Wf s):(lim prog).call DC [.agg a.cells,.agg b.cells] s=some (.b true,s) :=
 Si a b (R2 a ha) (R2 b hb) s hw
end Go.Proofs.YtmnbfgfgjmmhfaaGreatDoor
