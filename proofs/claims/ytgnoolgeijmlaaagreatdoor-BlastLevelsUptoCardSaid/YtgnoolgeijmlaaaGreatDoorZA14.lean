/- Part 14 of the proof (D4, Gp, Gq, Gr, Gs, Gt, Gu, Gv, Gw, Gx, Gy, Gz); no condition. -/
import Derived.Test.YtgnoolgeijmlaaaGreatDoorZA13
set_option linter.unusedVariables false
namespace Go.Proofs.YtgnoolgeijmlaaaGreatDoor.Bl
open Sm Bins Cov Xe Wd Go.Proofs.YtgnoolgeijmlaaaGreatDoor.Bd Go.RowKit
open Int renaming eq_ofNat_of_zero_le→qW,toNat_natCast→qZ
open List renaming getD_eq_getElem?_getD→zK,mem_append→zY,mem_singleton→qX,getElem?_eq_getElem→jS
theorem AE5 {v:Vr} (h:vrE v=0):IV v.name=true∧1≤v.width∧v.width≤8∧0≤v.mode∧v.mode≤2∧0≤v.value∧v.value < 2 ^ v.width.toNat∧(v.mode≠0→v.value=0):=by
 unfold vrE at h
 by_cases hv:IV v.name=true
 ·rw [if_pos hv] at h
  have hb:L6 v=false:=by
   cases hb:L6 v
   ·rfl
   ·rw [hb] at h; simp at h
  unfold L6 at hb
  simp only [Bool.or_eq_false_iff,decide_eq_false_iff_not,Bool.and_eq_false_iff] at hb
  obtain ⟨⟨⟨⟨⟨⟨h1,h2⟩,h3⟩,h4⟩,h5⟩,h6⟩,h7⟩:=hb
  refine ⟨hv,by omega,by omega,by omega,by omega,by omega,by omega,fun hm => ?_⟩
  rcases h7 with q | q
  ·simp at q; omega
  ·simpa using q
 ·rw [if_neg hv] at h; exact absurd h (by decide)
structure PV (p:Pr):Prop where
 len:p.vars.length≤16
 vr : ∀ v∈p.vars,vrE v=0
 nd : ∀ (i:Nat) (hi:i < p.vars.length),plc (p.vars.take i) p.vars[i].name < 0
 bits:KP p.vars≤20
 g:gOK p.vars p.groups=true
theorem PV.of {p:Pr} (h:NJ p=0):PV p:=by
 unfold NJ at h
 have h1:KO p.vars=0:=by
  by_cases q:KO p.vars=0
  ·exact q
  ·rw [if_pos q] at h; exact absurd h q
 rw [if_neg (by simpa using h1)] at h
 have h2:KD p.vars (p.hard ++ p.soft)=0:=by
  by_cases q:KD p.vars (p.hard ++ p.soft)=0
  ·exact q
  ·rw [if_pos q] at h; exact absurd h q
 rw [if_neg (by simpa using h2)] at h
 have h3:MZ p.vars p.dists=0:=by
  by_cases q:MZ p.vars p.dists=0
  ·exact q
  ·rw [if_pos q] at h; exact absurd h q
 rw [if_neg (by simpa using h3)] at h
 have h4:gOK p.vars p.groups=true:=by
  cases q:gOK p.vars p.groups
  ·rw [q] at h; simp at h
  ·rfl
 unfold KO at h1
 have a1 : ¬ p.vars.length > 16:=fun q=>by rw [if_pos q] at h1; exact absurd h1 (by decide)
 rw [if_neg a1] at h1
 have a2:N8 vrE p.vars=0:=by
  by_cases q:N8 vrE p.vars=0
  ·exact q
  ·rw [if_pos q] at h1; exact absurd h1 q
 rw [if_neg (by simpa using a2)] at h1
 have a3:AF6 p.vars=false:=by
  cases q:AF6 p.vars
  ·rfl
  ·rw [q] at h1; simp at h1
 rw [if_neg (by rw [a3]; decide)] at h1
 have a4:(p.vars.any fun v=>N7 p.vars v.name)=false:=by
  cases q:(p.vars.any fun v=>N7 p.vars v.name)
  ·rfl
  ·rw [if_pos q] at h1; exact absurd h1 (by decide)
 rw [if_neg (by rw [a4]; decide)] at h1
 have a5 : ¬ KP p.vars > 20:=fun q=>by rw [if_pos q] at h1; exact absurd h1 (by decide)
 refine ⟨by omega,fun v hv=>U9 a2 v hv,fun i hi => ?_,by omega,h4⟩
 have:=of_decide_eq_false a3
 have q : ¬ 0≤plc (p.vars.take i) p.vars[i].name:=fun q=>this ⟨⟨i,hi⟩,q⟩
 omega
def wd (vs:List Vr) (x:Int):Int:=match vs[x.toNat]? with | some v=>v.width | none=>0
def lvP (vs:List Vr) (s:List Int × Int) (x:Int):List Int × Int:=(s.1.set x.toNat s.2,s.2+wd vs x)
def lvS (vs:List Vr) (xs:List Int):List Int × Int:=xs.foldl (lvP vs) (List.replicate vs.length (-1),0)
def KC (p:Pr):List Int:=(lvS p.vars (flG p.groups)).1
theorem XU (vs:List Vr) (xs:List Int) (x:Int):lvS vs (xs ++ [x])=lvP vs (lvS vs xs) x:=by unfold lvS; rw [List.foldl_append]; rfl
theorem AA6 (vs:List Vr) (xs:List Int):(lvS vs xs).1.length=vs.length:=by
 have : ∀ (xs:List Int) (s:List Int × Int),(xs.foldl (lvP vs) s).1.length=s.1.length:=by
  intro xs
  induction xs with
  | nil=>intro s; rfl
  | cons x xs ih=>intro s; rw [List.foldl_cons,ih]; unfold lvP; simp
 unfold lvS
 rw [this]; simp
theorem APC {α:Type} {P:List α→Prop} (h0:P []) (h1 : ∀ xs x,P xs→P (xs ++ [x])) (xs:List α):P xs:=by
 have : ∀ n (xs:List α),xs.length=n→P xs:=by
  intro n
  induction n with
  | zero=>intro xs h; rw [List.eq_nil_of_length_eq_zero h]; exact h0
  | succ n ih =>
    intro xs h
    have hne:xs≠[]:=fun e=>by rw [e] at h; simp at h
    rw [← List.dropLast_concat_getLast hne]
    exact h1 _ _ (ih _ (by simp; omega))
 exact this _ _ rfl
structure LvI (vs:List Vr) (xs:List Int):Prop where
 nx:(lvS vs xs).2=(xs.map (wd vs)).sum
 n0:0≤(lvS vs xs).2
 ins : ∀ x∈xs,0≤(lvS vs xs).1.getD x.toNat 0∧(lvS vs xs).1.getD x.toNat 0+wd vs x≤(lvS vs xs).2
 apart : ∀ x∈xs,∀ y∈xs,x≠y→(lvS vs xs).1.getD x.toNat 0+wd vs x≤(lvS vs xs).1.getD y.toNat 0∨(lvS vs xs).1.getD y.toNat 0+wd vs y≤(lvS vs xs).1.getD x.toNat 0
theorem AH1 {l:List Int} {i:Nat} (h:i < l.length) (x:Int):(l.set i x).getD i 0=x:=by
 rw [zK,List.getElem?_set,if_pos rfl,if_pos h]; rfl
theorem getD_set_ne {l:List Int} {i j:Nat} (h:i≠j) (x:Int):(l.set i x).getD j 0=l.getD j 0:=by
 rw [zK,zK,List.getElem?_set_ne h]
theorem lvI (vs:List Vr) (hw : ∀ x,0≤wd vs x) (xs:List Int):(∀ x∈xs,0≤x∧x < vs.length)→(∀ x,xs.count x≤1)→LvI vs xs:=by
 refine APC (P:=fun xs:List Int=>(∀ x∈xs,0≤x∧x < vs.length)→(∀ x,xs.count x≤1)→LvI vs xs) ?_ ?_ xs
 ·intro _ _
  exact ⟨rfl,Int.le_refl _,fun _ h=>(by cases h),fun _ h=>(by cases h)⟩
 ·intro xs x ih hin hct
  have hin' : ∀ y∈xs,0≤y∧y < vs.length:=fun y hy=>hin y (List.mem_append_left _ hy)
  have I:=ih hin' fun y=>by have:=hct y; rw [List.count_append] at this; omega
  have hx:=hin x (by simp)
  have hnx:x ∉ xs:=fun q=>by
   have:=hct x
   rw [List.count_append] at this
   have h1:=List.count_pos_iff.2 q
   simp at this; omega
  have hl:x.toNat < (lvS vs xs).1.length:=by rw [AA6]; omega
  have hne : ∀ y∈xs,x.toNat≠y.toNat:=fun y hy e=>by
   have:=(hin' y hy).1
   have:x=y:=by omega
   exact hnx (this ▸ hy)
  have e1:(lvS vs (xs ++ [x])).2=(lvS vs xs).2+wd vs x:=by rw [XU]; rfl
  have e2:(lvS vs (xs ++ [x])).1.getD x.toNat 0=(lvS vs xs).2:=by rw [XU]; exact AH1 hl _
  have e3 : ∀ y∈xs,(lvS vs (xs ++ [x])).1.getD y.toNat 0=(lvS vs xs).1.getD y.toNat 0:=fun y hy=>by rw [XU]; exact getD_set_ne (hne y hy) _
  have hwx:=hw x
  refine ⟨?_,?_,?_,?_⟩
  ·rw [e1,I.nx,List.map_append,List.sum_append]; simp
  ·rw [e1]; have:=I.n0; omega
  ·intro y hy
   rcases zY.1 hy with q | q
   ·rw [e3 y q,e1]; have:=I.ins y q; omega
   ·rw [qX] at q; subst q; rw [e2,e1]; have:=I.n0; omega
  ·intro y hy z hz hyz
   rcases zY.1 hy with q | q <;> rcases zY.1 hz with r | r
   ·rw [e3 y q,e3 z r]; exact I.apart y q z r hyz
   ·rw [qX] at r; subst r
    rw [e3 y q,e2]; exact .inl (I.ins y q).2
   ·rw [qX] at q; subst q
    rw [e3 z r,e2]; exact .inr (I.ins z r).2
   ·rw [qX] at q r; exact absurd (q.trans r.symm) hyz
def SA (g:Nat→Int):Nat→Int
 | 0=>0
 | k+1=>SA g k+g k
theorem AG3 (g h:Nat→Int) : ∀ n,SA (fun i=>g i+h i) n=SA g n+SA h n
 | 0=>rfl
 | k+1=>by simp only [SA]; rw [AG3 g h k]; omega
theorem V7 {g h:Nat→Int} : ∀ n,(∀ i,i < n→g i=h i)→SA g n=SA h n
 | 0,_=>rfl
 | k+1,e=>by simp only [SA]; rw [V7 k (fun i hi=>e i (by omega)),e k (by omega)]
theorem AG2 (f:Nat→Int) (x:Nat) : ∀ n,SA (fun i=>if i=x then f i else 0) n=if x < n then f x else 0
 | 0=>by simp [SA]
 | k+1=>by
   simp only [SA]
   rw [AG2 f x k]
   by_cases h:x < k
   ·rw [if_pos h,if_neg (by omega),if_pos (by omega)]; omega
   ·rw [if_neg h]
    by_cases h2:k=x
    ·rw [if_pos h2,if_pos (by omega),h2]; omega
    ·rw [if_neg h2,if_neg (by omega)]; omega
theorem AD4 (f:Int→Int) (n:Nat) : ∀ xs:List Int,(∀ x∈xs,0≤x∧x < n)→(xs.map f).sum=SA (fun i=>(xs.count ((i:Nat):Int):Int) * f (i:Nat)) n
 | [],_=>by
   have : ∀ n,SA (fun i=>((([]:List Int).count ((i:Nat):Int):Nat):Int) * f (i:Nat)) n=0:=fun n=>by
    induction n with
    | zero=>rfl
    | succ n ih=>simp only [SA]; rw [ih]; simp
   rw [this]; rfl
 | x :: xs,h=>by
   have ih:=AD4 f n xs fun y hy=>h y (List.mem_cons_of_mem _ hy)
   obtain ⟨h0,h1⟩:=h x (by simp)
   obtain ⟨k,rfl⟩:=qW h0
   have e:SA (fun i=>((((k:Nat):Int) :: xs).count ((i:Nat):Int):Int) * f (i:Nat)) n=SA (fun i=>((xs.count ((i:Nat):Int):Int) * f (i:Nat))+(if i=k then f (i:Nat) else 0)) n:=by
    refine V7 n fun i _ => ?_
    rw [List.count_cons]
    by_cases q:i=k
    ·subst q
     rw [if_pos rfl]
     simp only [beq_self_eq_true,if_true]
     rw [Int.natCast_add,Int.add_mul]; simp
    ·rw [if_neg q,if_neg (by simpa using fun e:(k:Int)=i=>q (by omega))]; simp
   rw [e,AG3,AG2 (fun i=>f (i:Nat)) k n,if_pos (by omega),← ih,List.map_cons,List.sum_cons]; omega
theorem AER (vs:List Vr) : ∀ n,n≤vs.length→KP (vs.take n)=SA (fun i=>match vs[i]? with | some v=>if v.mode=0 then 0 else v.width | none=>0) n
 | 0,_=>by simp [KP,SA]
 | k+1,h=>by
   rw [TK (show k < vs.length by omega),AER vs k (by omega)]
   simp only [SA,jS (show k < vs.length by omega)]
theorem ZC {l:List Vr} {gs:List Gp} (h:gOK l gs=true):(∀ x∈flG gs,0≤x∧x < l.length)∧∀ (i:Nat) (hi:i < l.length),(flG gs).count ((i:Nat):Int)=if l[i].mode=0 then 0 else 1:=by
 obtain ⟨_,h2,h3⟩:=of_decide_eq_true h
 exact ⟨h2,fun i hi=>h3 ⟨i,hi⟩⟩
theorem PV.wd {p:Pr} (h:PV p) (x:Int):0≤Bl.wd p.vars x:=by
 unfold Bl.wd
 split
 ·rename_i v hv
  have:=(AE5 (h.vr v (List.mem_of_getElem? hv))).2.1
  omega
 ·exact Int.le_refl _
theorem PV.ct {p:Pr} (h:PV p) (x:Int):(flG p.groups).count x≤1:=by
 obtain ⟨h1,h2⟩:=ZC h.g
 by_cases hx:x∈flG p.groups
 ·obtain ⟨a,b⟩:=h1 x hx
  obtain ⟨k,rfl⟩:=qW a
  rw [h2 k (by omega)]; split <;> omega
 ·rw [List.count_eq_zero.2 hx]; omega
theorem PV.lv {p:Pr} (h:PV p):LvI p.vars (flG p.groups):=lvI p.vars h.wd _ (ZC h.g).1 h.ct
theorem PV.tot {p:Pr} (h:PV p):(lvS p.vars (flG p.groups)).2≤20:=by
 obtain ⟨h1,h2⟩:=ZC h.g
 rw [h.lv.nx,AD4 (Bl.wd p.vars) p.vars.length _ h1]
 have:=AER p.vars p.vars.length (Nat.le_refl _)
 rw [List.take_length] at this
 have e:SA (fun i=>((flG p.groups).count ((i:Nat):Int):Int) * Bl.wd p.vars (i:Nat)) p.vars.length=KP p.vars:=by
  rw [this]
  refine V7 _ fun i hi => ?_
  rw [h2 i hi]
  unfold Bl.wd
  simp only [qZ,jS hi]
  split <;> simp
 rw [e]
 exact h.bits
theorem PV.mem {p:Pr} (h:PV p) {i:Nat} (hi:i < p.vars.length) (hm:p.vars[i].mode≠0):((i:Nat):Int)∈flG p.groups:=by
 refine List.count_pos_iff.1 ?_
 rw [(ZC h.g).2 i hi,if_neg hm]; omega
theorem AWW {a:Nat} (h:a≤8):(2:Int) ^ a≤256:=by
 have:a=0∨a=1∨a=2∨a=3∨a=4∨a=5∨a=6∨a=7∨a=8:=by omega
 rcases this with rfl | rfl | rfl | rfl | rfl | rfl | rfl | rfl | rfl <;> decide
theorem PV.pok {p:Pr} (h:PV p):POk p (KC p):=fun i hi=>by
 obtain ⟨_,w1,w8,_,_,v0,v1,_⟩:=AE5 (h.vr _ (List.getElem_mem hi))
 refine ⟨fun _=>⟨v0,?_⟩,fun hm => ?_⟩
 ·have:=AWW (show p.vars[i].width.toNat≤8 by omega); omega
 ·have hin:=h.lv.ins _ (h.mem hi hm)
  have ht:=h.tot
  have e:Bl.wd p.vars ((i:Nat):Int)=p.vars[i].width:=by unfold Bl.wd; simp only [qZ,jS hi]
  rw [e] at hin
  simp only [qZ] at hin
  refine ⟨w1,w8,hin.1,?_⟩
  have:=hin.2
  unfold KC; omega
theorem XT (p:Pr):(KC p).length=p.vars.length:=AA6 _ _
end Go.Proofs.YtgnoolgeijmlaaaGreatDoor.Bl
set_option linter.unusedSimpArgs false
set_option maxRecDepth 8000
namespace Go.Proofs.YtgnoolgeijmlaaaGreatDoor.Bl
open Sm Bins Cov Xe Wd Go.Proofs.YtgnoolgeijmlaaaGreatDoor.Bd Go.RowKit
open Bool renaming not_false→jC,not_true→jV,or_false→jW
open Int renaming eq_ofNat_of_zero_le→qW,toNat_natCast→qZ
open List renaming replicate→jK,getElem?_eq_none→zG,map_cons→jF,map_nil→jE,append_nil→jD,length_map→jM,getElem?_set_ne→jR,take_zero→qA,take_succ_eq_append_getElem→qJ,append_assoc→zH,getElem?_eq_getElem→jS,getElem_mem→jX,length_append→zS,length_cons→zO,length_take→zQ,take_of_length_le→zB,getElem?_cons_zero→jP,getElem?_cons_succ→jQ,getElem?_append_left→zM,nil_append→zU,length_set→qE,contains_cons→jZ,contains_nil→jY,drop_eq_getElem_cons→zT,drop_eq_nil_of_le→zI,mem_singleton→qX,getD_eq_getElem?_getD→zK
open Nat renaming zero_add→jG,le_of_ble_eq_true→jH,reduceEqDiff→jA,le_refl→jO,add_zero→jI,reduceAdd→jL,reduceBEq→zA
open Option renaming getD_some→jB,getD_none→jJ
abbrev isI (H:Hp) (b:Nat) (xs:List Int):Prop:=H[b]? = some (.live 1 (xs.map qencI))
theorem isI.ix {H:Hp} {b:Nat} {xs:List Int} (h:isI H b xs) {n i:Nat} {kk:IntKind} (hi:i < n):MG 1 H (.own b 0 n) (.int kk (i:Nat))=some (.ptr b i 0):=by rw [PD h hi,jG]
theorem isI.st {H:Hp} {b:Nat} {xs:List Int} (h:isI H b xs) {i:Nat} (hi:i < xs.length) (z:Int):FB Tryz.prog H 3 (.ptr b i 0) (.int .i64 z)=some (H.set b (.live 1 ((xs.set i z).map qencI))):=by
 rw [GV (cs := [.int .i64 z]) rfl sz3 h (AFE hi) (by simp [qencI]),List.map_set]; rfl
theorem cR0 (n:Nat):cR [] n=(jK n (0:Int)).map qencI:=by
 apply List.ext_getElem?
 intro i
 by_cases hi:i < n
 ·rw [UW _ hi,List.getElem?_map,List.getElem?_replicate,if_pos hi]; rfl
 ·rw [zG (by rw [WP]; omega),zG (by simp; omega)]
theorem AVF (h:Hp) (n:Nat) (hn:n≤1048576):JH Tryz.prog true h 29 (.int .i64 (n:Int)) (.int .i64 (n:Int))=some (.own h.length 0 n,h ++ [.live 1 ((jK n (0:Int)).map qencI)]):=by
 rw [AZJ h n hn,cR0]
def lvV (p:Pr):AV:=if NJ p=0 then .sl .any 1 ((KC p).map qencI) else .sl .nil 0 []
theorem AHX {n k:Nat} (hk:k < n):(jK k (-1:Int) ++ jK (n - k) 0).set k (-1)=jK (k+1) (-1) ++ jK (n - (k+1)) 0:=by
 rw [List.set_append_right _ _ (by simp),show n - k=(n - (k+1))+1 by omega,List.replicate_succ,List.replicate_succ' (n:=k)]
 simp
theorem PV.member {p:Pr} (h:PV p) {i j:Nat} (hi:i < p.groups.length) (hj:j < p.groups[i].l.length) : ∃ k,∃ _:k < p.vars.length,p.groups[i].l[j]=(k:Nat):=by
 have hm:p.groups[i].l[j]∈flG p.groups:=by rw [SI hi hj]; simp
 obtain ⟨a,b⟩:=(ZC h.g).1 _ hm
 obtain ⟨k,hk⟩:=qW a
 exact ⟨k,by omega,hk⟩
theorem PV.nx {p:Pr} (h:PV p) (xs ys:List Int) (e:flG p.groups=xs ++ ys):0≤(lvS p.vars xs).2∧(lvS p.vars xs).2≤20:=by
 have I:LvI p.vars xs:=lvI p.vars h.wd xs (fun x hx=>(ZC h.g).1 x (by rw [e]; exact List.mem_append_left _ hx)) fun x=>by
  have:=h.ct x
  rw [e,List.count_append] at this; omega
 refine ⟨I.n0,?_⟩
 have t:=h.tot
 rw [h.lv.nx,e,List.map_append,List.sum_append] at t
 rw [I.nx]
 have : ∀ zs:List Int,0≤(zs.map (Bl.wd p.vars)).sum:=fun zs=>by
  induction zs with
  | nil=>exact Int.le_refl _
  | cons z zs ih=>rw [jF,List.sum_cons]; have:=h.wd z; omega
 have:=this ys
 omega
section
variable (G:Nat→AV)
set_option maxHeartbeats 4000000 in
theorem Q3 (hG:GOk G) (p:Pr) (hs:PrS p) (h:Hp):PCall (En G) 11 [.agg (DZ p)] h (lvV p):=by
 refine ACalls.pure 2 (R:=fun v H=>ext h H∧((NJ p≠0∧v = .sl .nil 0 [])∨(NJ p=0∧∃ b,h.length≤b∧v = .own b 0 (KC p).length∧isI H b (KC p)))) ?_ ?H
 case H =>
  rintro v H ⟨hx,⟨h1,rfl⟩ | ⟨h1,b,hb,rfl,q⟩⟩
  ·exact ⟨hx,by unfold lvV; rw [if_neg h1]; rfl⟩
  ·exact ⟨hx,by unfold lvV; rw [if_pos h1]; exact VA (d:=0) AT2 hb q⟩
 refine acN Tryz.func11 rfl ?_
 show awp _ _ _ _ _ (EH _ [.tmp 2] _)
 have ge:=CV h (ABlk.live 5 [DZ p])
 have hxx:ext h (h ++ [ABlk.live 5 [DZ p]]):=(ext.rfl' h).app _
 simp -implicitDefEqProofs only [BC,A8,A7,AZ,BB,AC,AQ,AO,BD,AX,AL,AA,AY,AU,L8,BA,FK,BO,BR,BF,↓reduceIte,jA,jB,jC,enP,TZ]
 have hge:h.length < (h ++ [ABlk.live 5 [DZ p]]).length:=by simp
 generalize h ++ [ABlk.live 5 [DZ p]]=hb at ge hxx hge ⊢
 have ldp:DF Tryz.prog hb 27 (.ptr h.length 0 0)=some (.agg (DZ p)):=by rw [GH VR UG ge (row:=DZ p) rfl (by rw [JF]; exact jO 5)]; rfl
 simp -implicitDefEqProofs only [AZ,AC,AQ,AO,BD,AX,AL,AA,AY,BZ,CB,BP,AB,jF,jE,jD,↓reduceIte,jB,jC,ldp]
 refine (ABN G hG p hs hb).use ?_
 simp -implicitDefEqProofs only [BI,A7,AZ,BB,AC,AQ,AO,BD,AX,AL,AA,AY,AU,BH,BX,AB,EU,↓reduceIte,jB,jC,enP]
 refine CX (fun hc => ?_) (fun hc => ?_)
 ·simp -implicitDefEqProofs only [BC,A8,BK,A7,CW,CU,AZ,BB,AC,AQ,AO,BD,AX,AL,AA,AU,L8,BA,↓reduceIte,jB,jC]
  exact ⟨hxx,.inl ⟨by simpa using hc,by trivial⟩⟩
 have h0:NJ p=0:=by simpa using hc
 have P:=PV.of h0
 have l0 : ∀ {H:Hp},H[h.length]? = some (.live 5 [DZ p])→DF Tryz.prog H 22 (.ptr h.length 0 0)=some (.sl p.vm 4 (p.vars.map E5)):=fun q=>by rw [DI UD q (row:=DZ p) rfl]; rfl
 have l4 : ∀ {H:Hp},H[h.length]? = some (.live 5 [DZ p])→DF Tryz.prog H 25 (.ptr h.length 0 4)=some (.sl p.gm 1 (p.groups.map MO)):=fun q=>by rw [DI AUX q (row:=DZ p) rfl]; rfl
 simp -implicitDefEqProofs only [BC,CG,A8,BQ,A7,AZ,BB,AC,AQ,AO,BD,AX,AL,AA,AY,AU,BH,BG,BA,BO,OY,BJ,EW,BR,AB,↓reduceIte,jA,jI,jB,jC,enP,RG,KH,VN,l0 ge,jM,AVF hb p.vars.length hs.vars]
 have qa:isI (hb ++ [ABlk.live 1 ((jK p.vars.length (0:Int)).map qencI)]) hb.length (jK p.vars.length 0):=CV _ _
 have ge':(hb ++ [ABlk.live 1 ((jK p.vars.length (0:Int)).map qencI)])[h.length]? = some (.live 5 [DZ p]):=BN ge
 have hx1:ext h (hb ++ [ABlk.live 1 ((jK p.vars.length (0:Int)).map qencI)]):=hxx.app _
 generalize hb ++ [ABlk.live 1 ((jK p.vars.length (0:Int)).map qencI)]=X at qa ge' hx1 ⊢
 generalize hb.length=ob at qa hge ⊢
 refine G6 0 (fun F H=>isI H ob (jK p.vars.length (-1))∧H[h.length]? = some (.live 5 [DZ p])∧ext h H∧F 1 = .ptr h.length 0 0∧F 3 = .own ob 0 p.vars.length) (fun _ _=>False) ?_ ?_ (fun _ _ q=>q.elim)
 ·refine D5 (fun n F H => ∃ k,n+k=p.vars.length∧isI H ob (jK k (-1) ++ jK (p.vars.length - k) 0)∧H[h.length]? = some (.live 5 [DZ p])∧ext h H∧F 1 = .ptr h.length 0 0∧F 3 = .own ob 0 p.vars.length∧F 18 = .int .i64 (p.vars.length:Nat)∧F 19 = .int .i64 (k:Nat)) p.vars.length
   ⟨0,rfl,qa,ge',hx1,by simp -implicitDefEqProofs only [AA,↓reduceIte,jA],by simp -implicitDefEqProofs only [AA,↓reduceIte,jA],by simp -implicitDefEqProofs only [AA,↓reduceIte,jA],by simp -implicitDefEqProofs only [AA,↓reduceIte]; rfl⟩ ?_
  clear qa ge' hx1 ge hxx ldp
  rintro n F H ⟨k,hn,qa,ge,hx,f1,f3,f18,f19⟩
  have ec:decide (((k:Nat):Int) < (p.vars.length:Nat))=decide (k < p.vars.length):=by rw [decide_eq_decide]; omega
  simp -implicitDefEqProofs only [BC,A8,BI,A7,AZ,BB,AC,AQ,AO,BD,AX,AL,AA,AY,BX,AB,C9,↓reduceIte,jB,jC,enP,f18,f19,ec]
  refine CX (fun hc => ?_) (fun hc => ?_)
  ·have hk:k < p.vars.length:=by simpa using hc
   have hst:=qa.st (i:=k) (by simp; omega) (-1)
   rw [AHX hk] at hst
   simp -implicitDefEqProofs only [BC,CG,A8,BQ,A7,ET,EX,AZ,BB,AC,AQ,AO,BD,AX,AL,DK,AA,AY,AU,BH,BG,BA,DC,BX,CO,AB,CJ,DX,↓reduceIte,jA,jB,jC,enP,WG,jJ,f3,f19,qa.ix hk,hst,wrap_succ (show k < 9223372036854775807 by have:=hs.vars; omega)]
   exact ⟨n - 1,by omega,k+1,by omega,DY qa,by rw [jR (by omega)]; exact ge,hx.set (by omega) _,by trivial,by trivial,by trivial,by trivial⟩
  ·have hc' : ¬ k < p.vars.length:=fun q=>by rw [decide_eq_true q] at hc; cases hc
   have hk:k=p.vars.length:=by omega
   subst hk
   rw [Nat.sub_self,List.replicate_zero,jD] at qa
   simp -implicitDefEqProofs only [DW,EP,KE,FM,AA,↓reduceIte,jA]
   exact ⟨qa,ge,hx,f1,f3⟩
 clear qa ge' hx1 ge hxx ldp
 rintro F H ⟨qa,ge,hx,f1,f3⟩
 simp -implicitDefEqProofs only [BC,CG,A8,A7,FH,AZ,BB,AC,AQ,AO,BD,AX,AL,AA,AY,AU,BH,BG,BA,BO,BJ,EW,AB,↓reduceIte,jA,jG,jB,jC,enP,ATL,ZF,f1,l4 ge,jM]
 refine G6 2 (fun F H=>isI H ob (KC p)∧ext h H∧F 3 = .own ob 0 p.vars.length) (fun _ _=>False) ?_ ?_ (fun _ _ q=>q.elim)
 ·refine D5 (fun n F H => ∃ i,n+i=p.groups.length∧isI H ob (lvS p.vars (flG (p.groups.take i))).1∧H[h.length]? = some (.live 5 [DZ p])∧ext h H∧F 1 = .ptr h.length 0 0∧F 3 = .own ob 0 p.vars.length∧F 5 = .int .i64 (lvS p.vars (flG (p.groups.take i))).2∧F 27 = .sl p.gm 1 (p.groups.map MO)∧F 28 = .int .i64 (p.groups.length:Nat)∧F 29 = .int .i64 (i:Nat)) p.groups.length
   ⟨0,rfl,qa,ge,hx,by simp -implicitDefEqProofs only [AA,↓reduceIte,jA]; exact f1,by simp -implicitDefEqProofs only [AA,↓reduceIte,jA]; exact f3,by simp -implicitDefEqProofs only [AA,↓reduceIte,jA]; rfl,by simp -implicitDefEqProofs only [AA,↓reduceIte,jA],by simp -implicitDefEqProofs only [AA,↓reduceIte,jA],by simp -implicitDefEqProofs only [AA,↓reduceIte]; rfl⟩ ?_
  clear qa ge hx f1 f3
  rintro n F H ⟨i,hn,qa,ge,hx,f1,f3,f5,f27,f28,f29⟩
  have ec:decide (((i:Nat):Int) < (p.groups.length:Nat))=decide (i < p.groups.length):=by rw [decide_eq_decide]; omega
  simp -implicitDefEqProofs only [BC,A8,BI,A7,AZ,BB,AC,AQ,AO,BD,AX,AL,AA,AY,BX,AB,C9,↓reduceIte,jB,jC,enP,f28,f29,ec]
  refine CX (fun hc => ?_) (fun hc => ?_)
  ·have hi:i < p.groups.length:=by simpa using hc
   have lg : ∀ H:Hp,DF Tryz.prog H 29 (.fptr 1 (p.groups.map MO) i 0)=some (.sl p.groups[i].m 1 (p.groups[i].l.map qencI)):=fun H=>by rw [FO AOK hi]; rfl
   simp -implicitDefEqProofs only [BC,CG,A8,BQ,A7,AZ,BB,AC,AQ,AO,BD,AX,AL,AA,AY,AU,BH,BG,BA,BO,CO,EW,AB,↓reduceIte,jA,jB,jC,enP,AJV,VN,f27,f29,EQ hi,lg,jM]
   refine G6 4 (fun F H=>isI H ob (lvS p.vars (flG (p.groups.take (i+1)))).1∧H[h.length]? = some (.live 5 [DZ p])∧ext h H∧F 1 = .ptr h.length 0 0∧F 3 = .own ob 0 p.vars.length∧F 5 = .int .i64 (lvS p.vars (flG (p.groups.take (i+1)))).2∧F 27 = .sl p.gm 1 (p.groups.map MO)∧F 28 = .int .i64 (p.groups.length:Nat)∧F 29 = .int .i64 (i:Nat)) (fun _ _=>False) ?_ ?_ (fun _ _ q=>q.elim)
   ·refine D5 (fun m F H => ∃ j,m+j=p.groups[i].l.length∧isI H ob (lvS p.vars (flG (p.groups.take i) ++ p.groups[i].l.take j)).1∧H[h.length]? = some (.live 5 [DZ p])∧ext h H∧F 1 = .ptr h.length 0 0∧F 3 = .own ob 0 p.vars.length∧F 5 = .int .i64 (lvS p.vars (flG (p.groups.take i) ++ p.groups[i].l.take j)).2∧F 27 = .sl p.gm 1 (p.groups.map MO)∧F 28 = .int .i64 (p.groups.length:Nat)∧F 29 = .int .i64 (i:Nat) ∧
     F 33 = .sl p.groups[i].m 1 (p.groups[i].l.map qencI)∧F 34 = .int .i64 (p.groups[i].l.length:Nat)∧F 35 = .int .i64 (j:Nat)) p.groups[i].l.length
     ⟨0,rfl,by rw [qA,jD]; exact qa,ge,hx,by simp -implicitDefEqProofs only [AA,↓reduceIte,jA]; exact f1,by simp -implicitDefEqProofs only [AA,↓reduceIte,jA]; exact f3,by rw [qA,jD]; simp -implicitDefEqProofs only [AA,↓reduceIte,jA]; exact f5,by simp -implicitDefEqProofs only [AA,↓reduceIte,jA]; exact f27,by simp -implicitDefEqProofs only [AA,↓reduceIte,jA]; exact f28,by simp -implicitDefEqProofs only [AA,↓reduceIte,jA]; exact f29,by simp -implicitDefEqProofs only [AA,↓reduceIte,jA],by simp -implicitDefEqProofs only [AA,↓reduceIte,jA],by simp -implicitDefEqProofs only [AA,↓reduceIte]; rfl⟩ ?_
    clear qa ge hx f1 f3 f5 f27 f28 f29
    rintro m F H ⟨j,hm,qa,ge,hx,f1,f3,f5,f27,f28,f29,f33,f34,f35⟩
    have ec2:decide (((j:Nat):Int) < (p.groups[i].l.length:Nat))=decide (j < p.groups[i].l.length):=by rw [decide_eq_decide]; omega
    simp -implicitDefEqProofs only [BC,A8,BI,A7,AZ,BB,AC,AQ,AO,BD,AX,AL,AA,AY,BX,AB,C9,↓reduceIte,jB,jC,enP,f34,f35,ec2]
    refine CX (fun hc => ?_) (fun hc => ?_)
    ·have hj:j < p.groups[i].l.length:=by simpa using hc
     obtain ⟨k,hk,ek⟩:=P.member hi hj
     have hsp:=SI hi hj
     obtain ⟨x0,x20⟩:=P.nx _ _ hsp
     have hap:(flG (p.groups.take i) ++ p.groups[i].l.take j) ++ [((k:Nat):Int)]=flG (p.groups.take i) ++ p.groups[i].l.take (j+1):=by
      rw [qJ hj,ek,zH]
     have e1:=XU p.vars (flG (p.groups.take i) ++ p.groups[i].l.take j) (k:Nat)
     rw [hap] at e1
     have hlen:=AA6 p.vars (flG (p.groups.take i) ++ p.groups[i].l.take j)
     generalize lvS p.vars (flG (p.groups.take i) ++ p.groups[i].l.take j)=S at qa f5 x0 x20 hlen e1
     have l3 : ∀ H:Hp,DF Tryz.prog H 3 (.fptr 1 (p.groups[i].l.map qencI) j 0)=some (.int .i64 (k:Nat)):=fun H=>by rw [FO ag3 hj,ek]; rfl
     have lw : ∀ H:Hp,DF Tryz.prog H 3 (.fptr 4 (p.vars.map E5) k 1)=some (.int .i64 p.vars[k].width):=fun H=>by rw [FO ag3 hk]; rfl
     have ewd:wd p.vars (k:Nat)=p.vars[k].width:=by unfold wd; simp only [qZ,jS hk]
     obtain ⟨_,w1,w8,_⟩:=AE5 (P.vr _ (jX hk))
     have hst:=qa.st (i:=k) (by omega) S.2
     have jl:j < 9223372036854775807:=by
      have h2:p.groups[i].l.length≤(flG p.groups).length:=by
       rw [hsp]; simp only [zS,zO,zQ,List.length_drop]; omega
      have:=hs.members; omega
     have ge':(H.set ob (.live 1 ((S.1.set k S.2).map qencI)))[h.length]? = some (.live 5 [DZ p]):=by rw [jR (by omega)]; exact ge
     simp -implicitDefEqProofs only [BC,CG,A8,BQ,A7,AZ,BB,AC,AQ,AO,BD,AX,AL,AA,AY,BG,BA,BO,CO,AB,↓reduceIte,jA,jB,jC,enP,WG,f33,f35,EQ hj,l3]
     simp -implicitDefEqProofs only [A8,A7,AZ,BB,AC,AQ,AO,BD,AX,AL,DK,AA,AY,BG,DC,BJ,AB,CJ,↓reduceIte,jA,jB,jC,enP,jJ,f3,f5,qa.ix (show k < p.vars.length from hk),hst]
     simp -implicitDefEqProofs only [A8,A7,ET,EX,AZ,BB,AC,AQ,AO,BD,AX,AL,AA,AY,AU,BH,BG,BA,BO,BX,BJ,CO,AB,DX,↓reduceIte,jA,jI,jG,jB,jC,enP,RH,KH,KZ,f1,f5,l0 ge',EQ hk,lw,f35,wrap_succ jl,wrap_i64 (show (-9223372036854775808:Int)≤S.2+p.vars[k].width by omega) (show S.2+p.vars[k].width≤9223372036854775807 by omega)]
     refine ⟨m - 1,by omega,j+1,by omega,?_,ge',hx.set (by omega) _,by trivial,by trivial,?_,by trivial,by trivial,by trivial,by trivial,by trivial,by trivial⟩
     ·rw [e1]; unfold lvP; exact DY qa
     ·rw [e1]; unfold lvP; rw [ewd]; try simp -implicitDefEqProofs only []
    ·have hc' : ¬ j < p.groups[i].l.length:=fun q=>by rw [decide_eq_true q] at hc; cases hc
     have tk:p.groups[i].l.take j=p.groups[i].l:=zB (by omega)
     rw [tk,← YG hi] at qa f5
     simp -implicitDefEqProofs only [DW,EP,KE,FM,AA,↓reduceIte,jA]
     exact ⟨qa,ge,hx,f1,f3,f5,f27,f28,f29⟩
   ·clear qa ge hx f1 f3 f5 f27 f28 f29
    rintro F H ⟨qa,ge,hx,f1,f3,f5,f27,f28,f29⟩
    simp -implicitDefEqProofs only [A8,A7,ET,FH,EX,AZ,BB,AC,AQ,AO,BD,AX,AL,AA,AY,AU,BH,BG,BX,AB,DX,↓reduceIte,jA,jB,jC,enP,f29,wrap_succ (show i < 9223372036854775807 by have:=hs.groups; omega)]
    exact ⟨n - 1,by omega,i+1,by omega,qa,ge,hx,by trivial,by trivial,by trivial,by trivial,by trivial,by trivial⟩
  ·have hc' : ¬ i < p.groups.length:=fun q=>by rw [decide_eq_true q] at hc; cases hc
   rw [zB (by omega)] at qa
   simp -implicitDefEqProofs only [DW,EP,KE,FM,AA,↓reduceIte,jA]
   exact ⟨qa,hx,f3⟩
 ·clear qa ge hx f1 f3
  rintro F H ⟨qa,hx,f3⟩
  simp -implicitDefEqProofs only [BC,A8,BK,A7,FH,CU,AZ,BB,AC,AQ,AO,BD,AX,AL,AA,AY,BG,BA,↓reduceIte,jB,jC,f3]
  exact ⟨hx,.inr ⟨h0,ob,by omega,by rw [XT],qa⟩⟩
set_option maxHeartbeats 4000000 in
theorem AJT (p:Pr) (hs:PrS p) (h:Hp):PCall (En G) 12 [.agg (DZ p)] h (lvV p):=by
 refine ACalls.pure 2 (R:=fun v H=>ext h H∧((NJ p≠0∧v = .sl .nil 0 [])∨(NJ p=0∧∃ b,h.length≤b∧v = .own b 0 (KC p).length∧isI H b (KC p)))) ?_ ?H
 case H =>
  rintro v H ⟨hx,⟨h1,rfl⟩ | ⟨h1,b,hb,rfl,q⟩⟩
  ·exact ⟨hx,by unfold lvV; rw [if_neg h1]; rfl⟩
  ·exact ⟨hx,by unfold lvV; rw [if_pos h1]; exact VA (d:=0) AT2 hb q⟩
 refine acN Tryz.func12 rfl ?_
 show awp _ _ _ _ _ (EH _ [.tmp 2] _)
 have ge:=CV h (ABlk.live 5 [DZ p])
 have hxx:ext h (h ++ [ABlk.live 5 [DZ p]]):=(ext.rfl' h).app _
 simp -implicitDefEqProofs only [BC,A8,A7,AZ,BB,AC,AQ,AO,BD,AX,AL,AA,AY,AU,L8,BA,FK,BO,BR,BF,↓reduceIte,jA,jB,jC,enP,TZ]
 have hge:h.length < (h ++ [ABlk.live 5 [DZ p]]).length:=by simp
 generalize h ++ [ABlk.live 5 [DZ p]]=hb at ge hxx hge ⊢
 have ldp:DF Tryz.prog hb 27 (.ptr h.length 0 0)=some (.agg (DZ p)):=by rw [GH VR UG ge (row:=DZ p) rfl (by rw [JF]; exact jO 5)]; rfl
 simp -implicitDefEqProofs only [AZ,AC,AQ,AO,BD,AX,AL,AA,AY,BZ,CB,BP,AB,jF,jE,jD,↓reduceIte,jB,jC,ldp]
 refine (ADZ G p hs hb).use ?_
 simp -implicitDefEqProofs only [BI,A7,AZ,BB,AC,AQ,AO,BD,AX,AL,AA,AY,AU,BH,BX,AB,EU,↓reduceIte,jB,jC,enP]
 refine CX (fun hc => ?_) (fun hc => ?_)
 ·simp -implicitDefEqProofs only [BC,A8,BK,A7,CW,CU,AZ,BB,AC,AQ,AO,BD,AX,AL,AA,AU,L8,BA,↓reduceIte,jB,jC]
  exact ⟨hxx,.inl ⟨by simpa using hc,by trivial⟩⟩
 have h0:NJ p=0:=by simpa using hc
 have P:=PV.of h0
 have l0 : ∀ {H:Hp},H[h.length]? = some (.live 5 [DZ p])→DF Tryz.prog H 22 (.ptr h.length 0 0)=some (.sl p.vm 4 (p.vars.map E5)):=fun q=>by rw [DI UD q (row:=DZ p) rfl]; rfl
 have l4 : ∀ {H:Hp},H[h.length]? = some (.live 5 [DZ p])→DF Tryz.prog H 25 (.ptr h.length 0 4)=some (.sl p.gm 1 (p.groups.map MO)):=fun q=>by rw [DI AUX q (row:=DZ p) rfl]; rfl
 simp -implicitDefEqProofs only [BC,CG,A8,BQ,A7,AZ,BB,AC,AQ,AO,BD,AX,AL,AA,AY,AU,BH,BA,BO,OY,BJ,EW,BR,AB,↓reduceIte,jA,jI,jB,jC,enP,RG,KH,l0 ge,jM,AVF hb p.vars.length hs.vars]
 have qa:isI (hb ++ [ABlk.live 1 ((jK p.vars.length (0:Int)).map qencI)]) hb.length (jK p.vars.length 0):=CV _ _
 have ge':(hb ++ [ABlk.live 1 ((jK p.vars.length (0:Int)).map qencI)])[h.length]? = some (.live 5 [DZ p]):=BN ge
 have hx1:ext h (hb ++ [ABlk.live 1 ((jK p.vars.length (0:Int)).map qencI)]):=hxx.app _
 generalize hb ++ [ABlk.live 1 ((jK p.vars.length (0:Int)).map qencI)]=X at qa ge' hx1 ⊢
 generalize hb.length=ob at qa hge ⊢
 refine G6 0 (fun F H=>isI H ob (jK p.vars.length (-1))∧H[h.length]? = some (.live 5 [DZ p])∧ext h H∧F 1 = .ptr h.length 0 0∧F 3 = .own ob 0 p.vars.length) (fun _ _=>False) ?_ ?_ (fun _ _ q=>q.elim)
 ·refine D5 (fun n F H => ∃ k,n+k=p.vars.length∧isI H ob (jK k (-1) ++ jK (p.vars.length - k) 0)∧H[h.length]? = some (.live 5 [DZ p])∧ext h H∧F 1 = .ptr h.length 0 0∧F 3 = .own ob 0 p.vars.length∧F 4 = .int .i64 (k:Nat)) p.vars.length
   ⟨0,rfl,qa,ge',hx1,by simp -implicitDefEqProofs only [AA,↓reduceIte,jA],by simp -implicitDefEqProofs only [AA,↓reduceIte,jA],by simp -implicitDefEqProofs only [AA,↓reduceIte]; rfl⟩ ?_
  clear qa ge' hx1 ge hxx ldp
  rintro n F H ⟨k,hn,qa,ge,hx,f1,f3,f4⟩
  have ec:decide (((k:Nat):Int) < (p.vars.length:Nat))=decide (k < p.vars.length):=by rw [decide_eq_decide]; omega
  simp -implicitDefEqProofs only [BC,A8,BI,A7,AZ,BB,AC,AQ,AO,BD,AX,AL,AA,AY,BG,BX,EW,AB,C9,↓reduceIte,jA,jB,jC,enP,VN,f3,f4,ec]
  refine CX (fun hc => ?_) (fun hc => ?_)
  ·have hk:k < p.vars.length:=by simpa using hc
   have hst:=qa.st (i:=k) (by simp; omega) (-1)
   rw [AHX hk] at hst
   simp -implicitDefEqProofs only [BC,CG,A8,BQ,A7,ET,EX,AZ,BB,AC,AQ,AO,BD,AX,AL,DK,AA,AY,AU,BH,BG,BA,DC,BX,CO,AB,CJ,DX,↓reduceIte,jA,jB,jC,enP,WG,jJ,f3,f4,qa.ix hk,hst,wrap_succ (show k < 9223372036854775807 by have:=hs.vars; omega)]
   exact ⟨n - 1,by omega,k+1,by omega,DY qa,by rw [jR (by omega)]; exact ge,hx.set (by omega) _,by trivial,by trivial,by trivial⟩
  ·have hc' : ¬ k < p.vars.length:=fun q=>by rw [decide_eq_true q] at hc; cases hc
   have hk:k=p.vars.length:=by omega
   subst hk
   rw [Nat.sub_self,List.replicate_zero,jD] at qa
   simp -implicitDefEqProofs only [DW,EP,KE,FM,AA,↓reduceIte,jA]
   exact ⟨qa,ge,hx,f1,f3⟩
 clear qa ge' hx1 ge hxx ldp
 rintro F H ⟨qa,ge,hx,f1,f3⟩
 simp -implicitDefEqProofs only [BC,CG,A8,A7,FH,AZ,BB,AC,AQ,AO,BD,AX,AL,AU,BH,BA,↓reduceIte,jB,jC]
 refine G6 2 (fun F H=>isI H ob (KC p)∧ext h H∧F 3 = .own ob 0 p.vars.length) (fun _ _=>False) ?_ ?_ (fun _ _ q=>q.elim)
 ·refine D5 (fun n F H => ∃ i,n+i=p.groups.length∧isI H ob (lvS p.vars (flG (p.groups.take i))).1∧H[h.length]? = some (.live 5 [DZ p])∧ext h H∧F 1 = .ptr h.length 0 0∧F 3 = .own ob 0 p.vars.length∧F 5 = .int .i64 (lvS p.vars (flG (p.groups.take i))).2∧F 6 = .int .i64 (i:Nat)) p.groups.length
   ⟨0,rfl,qa,ge,hx,by simp -implicitDefEqProofs only [AA,↓reduceIte,jA]; exact f1,by simp -implicitDefEqProofs only [AA,↓reduceIte,jA]; exact f3,by simp -implicitDefEqProofs only [AA,↓reduceIte,jA]; rfl,by simp -implicitDefEqProofs only [AA,↓reduceIte]; rfl⟩ ?_
  clear qa ge hx f1 f3
  rintro n F H ⟨i,hn,qa,ge,hx,f1,f3,f5,f6⟩
  have ec:decide (((i:Nat):Int) < (p.groups.length:Nat))=decide (i < p.groups.length):=by rw [decide_eq_decide]; omega
  simp -implicitDefEqProofs only [BC,A8,BI,A7,AZ,BB,AC,AQ,AO,BD,AX,AL,AA,AY,BG,BO,BX,BJ,EW,AB,C9,↓reduceIte,jA,jG,jB,jC,enP,ATL,ZF,f1,f6,l4 ge,jM,ec]
  refine CX (fun hc => ?_) (fun hc => ?_)
  ·have hi:i < p.groups.length:=by simpa using hc
   have lg : ∀ H:Hp,DF Tryz.prog H 29 (.fptr 1 (p.groups.map MO) i 0)=some (.sl p.groups[i].m 1 (p.groups[i].l.map qencI)):=fun H=>by rw [FO AOK hi]; rfl
   simp -implicitDefEqProofs only [BC,CG,A8,BQ,A7,AZ,BB,AC,AQ,AO,BD,AX,AL,AU,BH,BA,jB,jC]
   refine G6 4 (fun F H=>isI H ob (lvS p.vars (flG (p.groups.take (i+1)))).1∧H[h.length]? = some (.live 5 [DZ p])∧ext h H∧F 1 = .ptr h.length 0 0∧F 3 = .own ob 0 p.vars.length∧F 5 = .int .i64 (lvS p.vars (flG (p.groups.take (i+1)))).2∧F 6 = .int .i64 (i:Nat)) (fun _ _=>False) ?_ ?_ (fun _ _ q=>q.elim)
   ·refine D5 (fun m F H => ∃ j,m+j=p.groups[i].l.length∧isI H ob (lvS p.vars (flG (p.groups.take i) ++ p.groups[i].l.take j)).1∧H[h.length]? = some (.live 5 [DZ p])∧ext h H∧F 1 = .ptr h.length 0 0∧F 3 = .own ob 0 p.vars.length∧F 5 = .int .i64 (lvS p.vars (flG (p.groups.take i) ++ p.groups[i].l.take j)).2∧F 6 = .int .i64 (i:Nat)∧F 7 = .int .i64 (j:Nat)) p.groups[i].l.length
     ⟨0,rfl,by rw [qA,jD]; exact qa,ge,hx,by simp -implicitDefEqProofs only [AA,↓reduceIte,jA]; exact f1,by simp -implicitDefEqProofs only [AA,↓reduceIte,jA]; exact f3,by rw [qA,jD]; simp -implicitDefEqProofs only [AA,↓reduceIte,jA]; exact f5,by simp -implicitDefEqProofs only [AA,↓reduceIte,jA]; exact f6,by simp -implicitDefEqProofs only [AA,↓reduceIte]; rfl⟩ ?_
    clear qa ge hx f1 f3 f5 f6
    rintro m F H ⟨j,hm,qa,ge,hx,f1,f3,f5,f6,f7⟩
    have ec2:decide (((j:Nat):Int) < (p.groups[i].l.length:Nat))=decide (j < p.groups[i].l.length):=by rw [decide_eq_decide]; omega
    simp -implicitDefEqProofs only [BC,A8,BI,A7,AZ,BB,AC,AQ,AO,BD,AX,AL,AA,AY,BG,BO,BX,BJ,CO,EW,AB,C9,↓reduceIte,jA,jG,jB,jC,enP,AJV,ZF,VN,f1,f6,f7,l4 ge,EQ hi,lg,jM,ec2]
    refine CX (fun hc => ?_) (fun hc => ?_)
    ·have hj:j < p.groups[i].l.length:=by simpa using hc
     obtain ⟨k,hk,ek⟩:=P.member hi hj
     have hsp:=SI hi hj
     obtain ⟨x0,x20⟩:=P.nx _ _ hsp
     have hap:(flG (p.groups.take i) ++ p.groups[i].l.take j) ++ [((k:Nat):Int)]=flG (p.groups.take i) ++ p.groups[i].l.take (j+1):=by
      rw [qJ hj,ek,zH]
     have e1:=XU p.vars (flG (p.groups.take i) ++ p.groups[i].l.take j) (k:Nat)
     rw [hap] at e1
     have hlen:=AA6 p.vars (flG (p.groups.take i) ++ p.groups[i].l.take j)
     generalize lvS p.vars (flG (p.groups.take i) ++ p.groups[i].l.take j)=S at qa f5 x0 x20 hlen e1
     have l3 : ∀ H:Hp,DF Tryz.prog H 3 (.fptr 1 (p.groups[i].l.map qencI) j 0)=some (.int .i64 (k:Nat)):=fun H=>by rw [FO ag3 hj,ek]; rfl
     have lw : ∀ H:Hp,DF Tryz.prog H 3 (.fptr 4 (p.vars.map E5) k 1)=some (.int .i64 p.vars[k].width):=fun H=>by rw [FO ag3 hk]; rfl
     have ewd:wd p.vars (k:Nat)=p.vars[k].width:=by unfold wd; simp only [qZ,jS hk]
     obtain ⟨_,w1,w8,_⟩:=AE5 (P.vr _ (jX hk))
     have hst:=qa.st (i:=k) (by omega) S.2
     have jl:j < 9223372036854775807:=by
      have h2:p.groups[i].l.length≤(flG p.groups).length:=by
       rw [hsp]; simp only [zS,zO,zQ,List.length_drop]; omega
      have:=hs.members; omega
     have ge':(H.set ob (.live 1 ((S.1.set k S.2).map qencI)))[h.length]? = some (.live 5 [DZ p]):=by rw [jR (by omega)]; exact ge
     simp -implicitDefEqProofs only [BC,CG,A8,BQ,A7,AZ,BB,AC,AQ,AO,BD,AX,AL,AA,AY,BG,BA,BO,BJ,CO,AB,↓reduceIte,jA,jG,jB,jC,enP,AJV,ZF,WG,f1,f6,f7,l4 ge,EQ hi,lg,EQ hj,l3]
     simp -implicitDefEqProofs only [A8,A7,AZ,BB,AC,AQ,AO,BD,AX,AL,DK,AA,AY,BG,DC,BJ,AB,CJ,↓reduceIte,jA,jB,jC,enP,jJ,f3,f5,qa.ix (show k < p.vars.length from hk),hst]
     simp -implicitDefEqProofs only [A8,A7,ET,EX,AZ,BB,AC,AQ,AO,BD,AX,AL,AA,AY,AU,BH,BG,BA,BO,BX,BJ,CO,AB,DX,↓reduceIte,jA,jI,jG,jB,jC,enP,RH,KH,KZ,f1,f5,l0 ge',EQ hk,lw,f7,wrap_succ jl,wrap_i64 (show (-9223372036854775808:Int)≤S.2+p.vars[k].width by omega) (show S.2+p.vars[k].width≤9223372036854775807 by omega)]
     refine ⟨m - 1,by omega,j+1,by omega,?_,ge',hx.set (by omega) _,by trivial,by trivial,?_,by trivial,by trivial⟩
     ·rw [e1]; unfold lvP; exact DY qa
     ·rw [e1]; unfold lvP; rw [ewd]; try simp -implicitDefEqProofs only []
    ·have hc' : ¬ j < p.groups[i].l.length:=fun q=>by rw [decide_eq_true q] at hc; cases hc
     have tk:p.groups[i].l.take j=p.groups[i].l:=zB (by omega)
     rw [tk,← YG hi] at qa f5
     simp -implicitDefEqProofs only [DW,EP,KE,FM,AA,↓reduceIte,jA]
     exact ⟨qa,ge,hx,f1,f3,f5,f6⟩
   ·clear qa ge hx f1 f3 f5 f6
    rintro F H ⟨qa,ge,hx,f1,f3,f5,f6⟩
    simp -implicitDefEqProofs only [A8,A7,ET,FH,EX,AZ,BB,AC,AQ,AO,BD,AX,AL,AA,AY,AU,BH,BG,BA,BX,AB,DX,↓reduceIte,jA,jB,jC,enP,f6,wrap_succ (show i < 9223372036854775807 by have:=hs.groups; omega)]
    exact ⟨n - 1,by omega,i+1,by omega,qa,ge,hx,by trivial,by trivial,by trivial,by trivial⟩
  ·have hc' : ¬ i < p.groups.length:=fun q=>by rw [decide_eq_true q] at hc; cases hc
   rw [zB (by omega)] at qa
   simp -implicitDefEqProofs only [DW,EP,KE,FM,AA,↓reduceIte,jA]
   exact ⟨qa,hx,f3⟩
 ·clear qa ge hx f1 f3
  rintro F H ⟨qa,hx,f3⟩
  simp -implicitDefEqProofs only [BC,A8,BK,A7,FH,CU,AZ,BB,AC,AQ,AO,BD,AX,AL,AA,AY,BG,BA,↓reduceIte,jB,jC,f3]
  exact ⟨hx,.inr ⟨h0,ob,by omega,by rw [XT],qa⟩⟩
end
theorem look_ok {H:Hp} {b:Nat} {l:List Vr} (hb:H[b]? = some (.map (nmR l 0))) (x:ByteArray) : ∃ z:Nat,JD Tryz.prog H 76 (.mp b) (.str x) true=some (.tup [.int .i64 (z:Nat),.bool (!decide (plc l x < 0))]):=by
 have h1:=AL7 hb x true
 have h2:=YB x l
 cases hx:fnm x l with
 | none =>
   rw [hx] at h1 h2
   have h2:plc l x < 0:=h2
   exact ⟨0,by rw [h1,decide_eq_true h2]; rfl⟩
 | some i =>
   rw [hx] at h1 h2
   have h2:plc l x=(i:Nat):=h2.1
   exact ⟨i,by rw [h1,decide_eq_false (by omega)]; rfl⟩
section
variable (G:Nat→AV)
theorem AMZ (p:Pr) (mb:Nat) (e:Ex) (hw:wt e≤1048576) (h:Hp) (hmb:h[mb]? = some (.map (nmR p.vars 0))):PCall (En G) 71 [.mp mb,.agg (DR e)] h (.int .i64 (plE p.vars e)):=by
 refine ACalls.pure0 rfl ?_
 refine acN Tryz.func71 rfl ?_
 show awp _ _ _ _ _ (EH _ [.tmp 4] _)
 have ge:=CV h (ABlk.live 4 [DR e])
 have hmb:=BN (x:=ABlk.live 4 [DR e]) hmb
 have hxx:ext h (h ++ [ABlk.live 4 [DR e]]):=(ext.rfl' h).app _
 simp -implicitDefEqProofs only [BC,A8,A7,AZ,BB,AC,AQ,AO,BD,AX,AL,AA,AY,AU,BH,BA,FK,BO,BR,BF,BU,↓reduceIte,jA,jB,jC,enP,bxE]
 generalize h ++ [ABlk.live 4 [DR e]]=H1 at ge hxx hmb ⊢
 generalize h.length=eb at ge ⊢
 simp -implicitDefEqProofs only [AZ,AC,AQ,AO,BD,AX,AL,AA,AY,BZ,CB,BP,AB,jF,jE,jD,↓reduceIte,jB,jC,IU ge]
 refine (AAI G e hw _).use ?_
 simp -implicitDefEqProofs only [BI,A7,AZ,BB,AC,AQ,AO,BD,AX,AL,AA,AY,AU,BH,BX,EW,AB,F6,↓reduceIte,jB,jC,enP,ADO,jM,ARP]
 refine CX (fun ha => ?_) (fun ha => ?_)
 ·simp -implicitDefEqProofs only [BC,A8,BK,A7,CW,CU,AZ,BB,AC,AQ,AO,BD,AX,AL,AA,AU,BH,BA,↓reduceIte,jB,jC]
  exact ⟨by unfold plE; rw [if_pos ha],hxx⟩
 simp -implicitDefEqProofs only [BC,A8,BQ,A7,AZ,AC,AQ,AO,BD,AX,AL,AA,AY,BZ,BO,CB,BP,AB,jF,jE,jD,↓reduceIte,jA,jB,jC,enP,IU ge]
 refine (ADB G e hw _).use ?_
 have hnl:(nmL [2] [] (pre e)).length≤1048576:=by
  have h1:=AA5 [2] (pre e) []
  have h2:=Y8 e
  simp at h1; omega
 have hfr:=AQP p.vars e
 generalize nmL [2] [] (pre e)=ns at hnl hfr ⊢
 simp -implicitDefEqProofs only [CG,A7,AZ,BB,AC,AQ,AO,BD,AX,AL,AA,AY,AU,BH,BG,EW,AB,↓reduceIte,jB,jC,enP,ADO,jM]
 refine G6 0 (fun F H=>H=H1∧∀ (j:Nat) (hj:j < ns.length),¬ plc p.vars ns[j] < 0) (fun F H=>F 4 = .int .i64 7∧H=H1∧VO p.vars e=true) ?_ ?_ ?_
 ·refine D5 (fun n F H => ∃ i,n+i=ns.length∧F 0 = .mp mb∧F 14 = .sl (nm ns) 1 (ns.map encStr)∧F 15 = .int .i64 (ns.length:Nat)∧F 16 = .int .i64 (i:Nat)∧H=H1∧∀ (j:Nat) (hj:j < ns.length),j < i→¬ plc p.vars ns[j] < 0) ns.length
   ⟨0,rfl,by simp -implicitDefEqProofs only [AA,BF,↓reduceIte,jA],by simp -implicitDefEqProofs only [AA,↓reduceIte,jA],by simp -implicitDefEqProofs only [AA,↓reduceIte,jA],by simp -implicitDefEqProofs only [AA,↓reduceIte]; rfl,rfl,fun j _ q=>by omega⟩ ?_
  rintro n F H ⟨i,hn,f0,f14,f15,f16,rfl,hall⟩
  have ec:decide (((i:Nat):Int) < (ns.length:Nat))=decide (i < ns.length):=by rw [decide_eq_decide]; omega
  simp -implicitDefEqProofs only [BC,A8,BI,A7,AZ,BB,AC,AQ,AO,BD,AX,AL,AA,AY,BX,AB,C9,↓reduceIte,jB,jC,enP,f15,f16,ec]
  refine CX (fun hc => ?_) (fun hc => ?_)
  ·have hi:i < ns.length:=by simpa using hc
   have l9:DF Tryz.prog H 9 (.fptr 1 (ns.map encStr) i 0)=some (.str ns[i]):=by rw [FO ag9 hi]; rfl
   obtain ⟨z,lk⟩:=look_ok hmb ns[i]
   simp -implicitDefEqProofs only [jP,jQ,BC,CG,A8,BQ,BI,A7,AZ,BB,AC,AQ,AO,BD,AX,AL,AA,AY,BG,BA,BO,IQ,CO,EJ,FP,RX,AB,FI,↓reduceIte,jA,jB,jC,enP,ANT,f0,f14,f16,EQ hi,l9,lk]
   refine CX (fun hd => ?_) (fun hd => ?_)
   ·simp -implicitDefEqProofs only [BC,A8,BK,A7,CW,EN,NM,FV,AZ,BB,AC,AQ,AO,BD,AX,AL,AA,AU,BH,BA,↓reduceIte,jB,jC]
    refine ⟨by trivial,by trivial,?_⟩
    rw [← hfr,List.any_eq_true]
    exact ⟨ns[i],jX hi,by simpa using hd⟩
   ·simp -implicitDefEqProofs only [A8,BQ,A7,ET,EX,AZ,BB,AC,AQ,AO,BD,AX,AL,AA,AY,AU,BH,BG,BX,AB,DX,↓reduceIte,jA,jB,jC,enP,f16,wrap_succ (show i < 9223372036854775807 by omega)]
    refine ⟨n - 1,by omega,i+1,by omega,by trivial,by trivial,by trivial,by trivial,by trivial,fun j hj q => ?_⟩
    rcases Nat.lt_or_ge j i with q1 | q1
    ·exact hall j hj q1
    ·obtain rfl:j=i:=by omega
     simpa using hd
  ·have hc' : ¬ i < ns.length:=fun q=>by rw [decide_eq_true q] at hc; cases hc
   simp -implicitDefEqProofs only [DW,EP,KE,FM,↓reduceIte]
   exact ⟨by trivial,fun j hj=>hall j hj (by omega)⟩
 ·rintro F H ⟨rfl,hall⟩
  simp -implicitDefEqProofs only [BC,A8,BK,A7,FH,CU,AZ,BB,AC,AQ,AO,BD,AX,AL,AA,AU,BH,BA,↓reduceIte,jB,jC]
  refine ⟨?_,hxx⟩
  have:VO p.vars e=false:=by
   rw [← hfr,List.any_eq_false]
   intro x hx
   obtain ⟨j,hj,rfl⟩:=List.mem_iff_getElem.1 hx
   simpa using hall j hj
  unfold plE; rw [ha,this]; rfl
 ·rintro F H ⟨f4,rfl,hf⟩
  simp -implicitDefEqProofs only [CW,EN,CU,f4]
  exact ⟨by unfold plE; rw [ha,hf]; rfl,hxx⟩
end
def stE (R:List Rn) (p:Pr) (e:Ex):Int:=if vdR R=true then if NJ p=0 then if exE e=0 then plE p.vars e else 1 else 1 else 1
theorem A3H (m:SM) (xs:List (List AV)) (p:Pr) (lm:SM) (ls:List (List AV)) (mb:Nat):JV Tryz.prog 78 [(0,.agg [.sl m 3 xs]),(1,.agg (DZ p)),(2,.sl lm 1 ls),(3,.mp mb)]=some (.agg (.sl m 3 xs :: (DZ p ++ [.sl lm 1 ls,.mp mb]))):=by kernel_rfl
structure Stt (R:List Rn) (p:Pr) (h:Hp) (bb mb:Nat) (rest:List AV) (l:Dg) (H:Hp):Prop where
 b0:h.length≤bb
 m0:h.length≤mb
 ne:mb≠bb
 r:R=l.map Nd.raw
 s:PS bb rest l H
 k:Pk p (KC p) .any mb rest
 mp:H[mb]? = some (.map (nmR p.vars 0))
section
variable (G:Nat→AV)
set_option maxHeartbeats 4000000 in
theorem ABQ (hG:GOk G) (R:List Rn) (m:SM) (hR:R.length≤1048576) (p:Pr) (hs:PrS p) (e:Ex) (hw:wt e≤1048576) (h:Hp):ACalls (En G) 37 [.agg [.sl m 3 (R.map EG)],.agg (DZ p),.agg (DR e)] h fun v H=>ext h H ∧
  ((stE R p e≠0∧∃ u,(u = .nilp∨∃ b,u = .ptr b 0 0)∧v = .tup [u,.int .i64 (stE R p e)])∨(stE R p e=0∧∃ bb mb rest l,v = .tup [.ptr bb 0 0,.int .i64 0]∧Stt R p h bb mb rest l H)):=by
 refine acN Tryz.func37 rfl ?_
 show awp _ _ _ _ _ (EH _ [.tmp 6,.tmp 7] _)
 simp -implicitDefEqProofs only [BC,A8,A7,AZ,BB,AC,AQ,AO,BD,AX,AL,AA,AY,AU,BH,VH,BA,FK,BO,BR,BF,BU,↓reduceIte,jA,jB,jC,enP,UA,TZ,bxE]
 generalize hX:h ++ [ABlk.live 1 [[.sl m 3 (R.map EG)]]] ++ [ABlk.live 5 [DZ p]] ++ [ABlk.live 4 [DR e]]=X
 have hx:ext h X:=by rw [← hX]; exact (((ext.rfl' h).app _).app _).app _
 have q3:X[h.length]? = some (.live 1 [[.sl m 3 (R.map EG)]]):=by rw [← hX]; exact BN (BN (CV _ _))
 have q4:X[h.length+1]? = some (.live 5 [DZ p]):=by rw [← hX]; exact BN (GK (by simp))
 have q5:X[h.length+2]? = some (.live 4 [DR e]):=by rw [← hX]; exact GK (by simp)
 have e1:(h ++ [ABlk.live 1 [[AV.sl m 3 (R.map EG)]]]).length=h.length+1:=by simp
 have e2:(h ++ [ABlk.live 1 [[AV.sl m 3 (R.map EG)]]] ++ [ABlk.live 5 [DZ p]]).length=h.length+2:=by simp
 have e3:X.length=h.length+3:=by rw [← hX]; simp
 rw [e1,e2]
 clear hX
 have ldp : ∀ {H:Hp},H[h.length+1]? = some (.live 5 [DZ p])→DF Tryz.prog H 27 (.ptr (h.length+1) 0 0)=some (.agg (DZ p)):=fun q=>by rw [GH VR UG q (row:=DZ p) rfl (by rw [JF]; exact jO 5)]; rfl
 simp -implicitDefEqProofs only [AZ,AC,AQ,AO,BD,AX,AL,AA,AY,BZ,CB,BP,AB,jF,jE,jD,↓reduceIte,jB,jC,JA q3]
 refine (XC G R m hR X).use ?_
 cases hv:vdR R
 ·have hst:stE R p e=1:=by unfold stE; rw [if_neg (by rw [hv]; decide)]
  simp -implicitDefEqProofs only [BC,A8,BK,BI,A7,CW,ZJ,D6,AZ,BB,BM,CE,CQ,GM,AC,AQ,AO,BD,AX,AL,AA,EO,AY,AU,BH,BL,VH,BG,BA,CS,DL,IQ,AB,FI,↓reduceIte,jA,jB,jC]
  refine ⟨hx,.inl ⟨by rw [hst]; decide,_,.inl rfl,by rw [hst]⟩⟩
 simp -implicitDefEqProofs only [AZ,BM,CE,CQ,EZ,AC,AQ,AO,BD,AX,AL,AA,AY,BZ,BG,BO,IQ,CB,BP,AB,FI,jF,jE,jD,↓reduceIte,jA,jB,jV,jC,enP,ldp q4]
 refine (ABN G hG p hs X).use ?_
 simp -implicitDefEqProofs only [AZ,BM,CE,CQ,EZ,AC,AQ,AO,BD,AX,AL,AA,AY,AU,BH,BL,BG,CS,DU,BX,AB,EU,↓reduceIte,jA,jB,jC,enP]
 by_cases hp0:NJ p=0
 case neg =>
  have hp:(NJ p != 0)=true:=by simpa using hp0
  have hst:stE R p e=1:=by unfold stE; rw [if_pos hv,if_neg hp0]
  simp -implicitDefEqProofs only [BC,A8,BK,BI,A7,CW,ZJ,D6,AZ,BB,BM,CE,CQ,GM,AC,AQ,AO,BD,AX,AL,AA,EO,AY,AU,BH,BL,VH,BA,CS,DL,↓reduceIte,jA,jB,jC,hp]
  exact ⟨hx,.inl ⟨by rw [hst]; decide,_,.inl rfl,by rw [hst]⟩⟩
 have hp:(NJ p != 0)=false:=by simpa using hp0
 simp -implicitDefEqProofs only [EZ,AC,AQ,AO,BD,AX,AA,AY,BO,↓reduceIte,jA,jB,jC,enP,hp]
 simp -implicitDefEqProofs only [BM,CE,CQ,EZ,AC,AQ,AO,BD,AX,AL,AA,AY,BZ,CB,BP,AB,jF,jE,jD,↓reduceIte,jA,jB,jC,IU q5]
 refine (YL G hG e X hw).use ?_
 simp -implicitDefEqProofs only [BI,A7,AZ,BB,BM,CE,CQ,EZ,AC,AQ,AO,BD,AX,AL,AA,AY,AU,BH,BL,CS,DU,BX,AB,EU,↓reduceIte,jA,jB,jC,enP]
 by_cases he0:exE e=0
 case neg =>
  have he:(exE e != 0)=true:=by simpa using he0
  have hst:stE R p e=1:=by unfold stE; rw [if_pos hv,if_pos hp0,if_neg he0]
  simp -implicitDefEqProofs only [BC,A8,BK,A7,CW,ZJ,D6,AZ,BB,AC,AQ,AO,BD,AX,AL,AA,AU,BH,VH,BA,↓reduceIte,jA,jB,jC,he]
  exact ⟨hx,.inl ⟨by rw [hst]; decide,_,.inl rfl,by rw [hst]⟩⟩
 have he:(exE e != 0)=false:=by simpa using he0
 have hst:stE R p e=plE p.vars e:=by unfold stE; rw [if_pos hv,if_pos hp0,if_pos he0]
 simp -implicitDefEqProofs only [BC,BQ,A7,D9,he]
 have lvl0:lvV p = .sl .any 1 ((KC p).map qencI):=by unfold lvV; rw [if_pos hp0]
 obtain ⟨l,vl,rfl⟩:=AYK hv
 have hRm:(l.map Nd.raw).map EG=l.map DJ:=PU l
 rw [hRm] at q3
 generalize hrest:DZ p ++ [AV.sl .any 1 ((KC p).map qencI),.mp X.length]=rest
 have hbd:JV Tryz.prog 78 [(0,.agg [.sl m 3 (l.map DJ)]),(1,.agg (DZ p)),(2,.sl .any 1 ((KC p).map qencI)),(3,.mp X.length)]=some (.agg (.sl m 3 (l.map DJ) :: rest)):=by
  rw [← hrest]; exact A3H _ _ _ _ _ _
 have hrl:rest.length=7:=by rw [← hrest]; rfl
 have hbx : ∀ H:Hp,MK H (.agg (.sl m 3 (l.map DJ) :: rest))=some (.ptr H.length 0 0,H ++ [.live 8 [.sl m 3 (l.map DJ) :: rest]]):=fun H=>by
  rw [← hrest]; exact ABC (h:=H) (cs := .sl m 3 (l.map DJ) :: (DZ p ++ [AV.sl .any 1 ((KC p).map qencI),.mp X.length])) rfl
 have mkm:AC7 X=some (.mp X.length,X ++ [.map []]):=rfl
 have eX1:(X ++ [ABlk.map []]).length=X.length+1:=by simp
 refine TM (fun F' H'=>H'=X ++ [.map []] ++ [.live 8 [.sl m 3 (l.map DJ) :: rest]]∧F' 4 = .ptr (h.length+1) 0 0∧F' 5 = .ptr (h.length+2) 0 0∧F' 8 = .ptr (X.length+1) 0 0) (fun _ _=>False) ?_ ?_ (fun _ _ q=>q.elim)
 ·refine GI (.ones [2] (.alt 0 (.alt 1 (.alt 3 (.alt 4 (.ones [5,6,7] .done) (.non)) (.alt 4 (.ones [3,5,6,7] .done) (.non))) (.alt 3 (.ones [1] (.alt 4 (.ones [5,6,7] .done) (.non))) (.alt 4 (.ones [3,1,5,6,7] .done) (.non)))) (.alt 1 (.alt 0 (.alt 3 (.alt 4 (.ones [5,6,7] .done) (.non)) (.alt 4 (.ones [3,5,6,7] .done) (.non))) (.alt 3 (.ones [0] (.alt 4 (.ones [5,6,7] .done) (.non))) (.alt 4 (.ones [3,0,5,6,7] .done) (.non)))) (.alt 3 (.ones [0,1] (.alt 4 (.ones [5,6,7] .done) (.non))) (.alt 4 (.ones [3,0,1,5,6,7] .done) (.non)))))) (by kernel_rfl) ?_
  simp only [DN,JQ,jQ,jP]
  simp -implicitDefEqProofs only [FC,FT,FX,DT,CZ,D8,DV,AE2,EK,IB,GZ,LG,AC,AA,AY,BZ,H8,BO,CB,BP,UZ,AB,jF,jE,jD,↓reduceIte,jA,jL,jB,enP,ldp q4,ldp (BN q4),JA q3,JA (BN q3),mkm,Y4,GR,GU]
  repeat' first | exact trivial | (refine (Q3 G hG p hs _).use ?_; simp -implicitDefEqProofs only [FC,DT,CZ,D8,DV,GN,AU5,EK,AC,AA,AY,FK,BO,BR,AB,↓reduceIte,jA,jL,jB,enP,ldp q4,ldp (BN q4),JA q3,JA (BN q3),mkm,Y4,lvl0,hbd,hbx,eX1,GR,GU]) | (refine ⟨_,Q3 G hG p hs _,?_⟩; simp -implicitDefEqProofs only [FC,DT,CZ,D8,DV,GN,AU5,AC,AA,AY,FK,BR,AB,↓reduceIte,jA,jL,jB,ldp q4,ldp (BN q4),JA q3,JA (BN q3),mkm,Y4,lvl0,hbd,hbx,eX1,GR,GU]) | apply And.intro
 rintro F H0 ⟨hH0,f4,f5,f8⟩
 have mH0:H0[X.length]? = some (.map (nmR (p.vars.take 0) 0)):=by rw [hH0]; exact BN (CV _ _)
 have bH0:H0[X.length+1]? = some (.live 8 [.sl m 3 (l.map DJ) :: rest]):=by rw [hH0]; exact GK eX1
 have pH0:H0[h.length+1]? = some (.live 5 [DZ p]):=by rw [hH0]; exact BN (BN q4)
 have eH0:H0[h.length+2]? = some (.live 4 [DR e]):=by rw [hH0]; exact BN (BN q5)
 have xH0:ext h H0:=by rw [hH0]; exact (hx.app _).app _
 clear hH0
 have P:=PV.of hp0
 have l0 : ∀ {H:Hp},H[h.length+1]? = some (.live 5 [DZ p])→DF Tryz.prog H 22 (.ptr (h.length+1) 0 0)=some (.sl p.vm 4 (p.vars.map E5)):=fun q=>by rw [DI UD q (row:=DZ p) rfl]; rfl
 have l7 : ∀ {H:Hp},H[X.length+1]? = some (.live 8 [.sl m 3 (l.map DJ) :: rest])→DF Tryz.prog H 76 (.ptr (X.length+1) 0 7)=some (.mp X.length):=fun q=>by rw [DI A1J q (row := .sl m 3 (l.map DJ) :: rest) rfl,← hrest]; rfl
 simp -implicitDefEqProofs only [BC,CG,A8,A7,AZ,BB,AC,AQ,AO,BD,AX,AL,AA,AY,AU,BH,BG,BO,BJ,EW,AB,↓reduceIte,jI,jB,jC,enP,RG,KH,f4,l0 pH0,jM]
 refine G6 0 (fun F H=>H[X.length]? = some (.map (nmR p.vars 0))∧H[X.length+1]? = some (.live 8 [.sl m 3 (l.map DJ) :: rest])∧H[h.length+2]? = some (.live 4 [DR e])∧ext h H∧F 5 = .ptr (h.length+2) 0 0∧F 8 = .ptr (X.length+1) 0 0) (fun _ _=>False) ?_ ?_ (fun _ _ q=>q.elim)
 ·refine D5 (fun n F H => ∃ i,n+i=p.vars.length∧H[X.length]? = some (.map (nmR (p.vars.take i) 0))∧H[X.length+1]? = some (.live 8 [.sl m 3 (l.map DJ) :: rest])∧H[h.length+2]? = some (.live 4 [DR e])∧ext h H∧F 5 = .ptr (h.length+2) 0 0∧F 8 = .ptr (X.length+1) 0 0∧F 32 = .sl p.vm 4 (p.vars.map E5)∧F 33 = .int .i64 (p.vars.length:Nat)∧F 34 = .int .i64 (i:Nat)) p.vars.length
   ⟨0,rfl,mH0,bH0,eH0,xH0,by simp -implicitDefEqProofs only [AA,↓reduceIte,jA]; exact f5,by simp -implicitDefEqProofs only [AA,↓reduceIte,jA]; exact f8,by simp -implicitDefEqProofs only [AA,↓reduceIte,jA],by simp -implicitDefEqProofs only [AA,↓reduceIte,jA],by simp -implicitDefEqProofs only [AA,↓reduceIte]; rfl⟩ ?_
  clear mH0 bH0 pH0 eH0 xH0 f4 f5 f8
  rintro n F H ⟨i,hn,mH,bH,eH,xH,f5,f8,f32,f33,f34⟩
  have ec:decide (((i:Nat):Int) < (p.vars.length:Nat))=decide (i < p.vars.length):=by rw [decide_eq_decide]; omega
  simp -implicitDefEqProofs only [BC,A8,BI,A7,AZ,BB,AC,AQ,AO,BD,AX,AL,AA,AY,BX,AB,C9,↓reduceIte,jB,jC,enP,f33,f34,ec]
  refine CX (fun hc => ?_) (fun hc => ?_)
  ·have hi:i < p.vars.length:=by simpa using hc
   have hlt:(p.vars.take i).length=i:=by rw [zQ]; omega
   have hno:fnm p.vars[i].name (p.vars.take i)=none:=by
    have h1:=YB p.vars[i].name (p.vars.take i)
    have h2:=P.nd i hi
    cases hq:fnm p.vars[i].name (p.vars.take i) with
    | none=>rfl
    | some k=>rw [hq] at h1; have:=h1.1; omega
   have qv:=CV H (ABlk.live 4 [E5 p.vars[i]])
   have mH':=BN (x:=ABlk.live 4 [E5 p.vars[i]]) mH
   have bH':=BN (x:=ABlk.live 4 [E5 p.vars[i]]) bH
   have eH':=BN (x:=ABlk.live 4 [E5 p.vars[i]]) eH
   have xH':=xH.app [ABlk.live 4 [E5 p.vars[i]]]
   have hup:=AP3 mH' p.vars[i] hno
   rw [hlt,← qJ hi] at hup
   have l9:DF Tryz.prog (H ++ [ABlk.live 4 [E5 p.vars[i]]]) 9 (.ptr H.length 0 0)=some (.str p.vars[i].name):=by rw [DI ag9 qv rfl]; rfl
   simp -implicitDefEqProofs only [BC,CG,A8,BQ,A7,AZ,BB,AC,AQ,AO,BD,AX,AL,DK,AA,AY,BG,BA,EF,BO,DC,CO,BR,AB,CJ,↓reduceIte,jA,jB,jC,enP,RH,jJ,f32,f34,EQ hi,ldV hi,Bd.al61,Bd.st61]
   refine GI (.ones [0,1,2,3,4,5,6] (.alt 7 (.done) (.non))) (by kernel_rfl) ?_
   simp only [DN,JQ,jQ,jP]
   simp -implicitDefEqProofs only [FC,DT,CZ,D8,DV,ED,EK,D7,A8,A7,ET,EX,AZ,BB,AC,AQ,AO,BD,AX,AL,AA,AY,AU,BH,BG,BO,BX,BJ,NE,AB,CJ,DX,↓reduceIte,jA,jL,jI,jG,jB,jC,enP,PE,AKA,jJ,EE,F8,EY,f8,f34,l7 bH',l9,hup,QS,GR,GU,wrap_succ (show i < 9223372036854775807 by have:=hs.vars; omega)]
   refine ⟨⟨n - 1,by omega,i+1,by omega,DY mH',by rw [jR (by omega)]; exact bH',by rw [jR (by omega)]; exact eH',xH'.set (by omega) _,by trivial,by trivial,by trivial,by trivial,by trivial⟩,trivial⟩
  ·have hc' : ¬ i < p.vars.length:=fun q=>by rw [decide_eq_true q] at hc; cases hc
   rw [zB (by omega)] at mH
   simp -implicitDefEqProofs only [DW,EP,KE,FM,AA,↓reduceIte,jA]
   exact ⟨mH,bH,eH,xH,f5,f8⟩
 ·clear mH0 bH0 pH0 eH0 xH0 f4 f5 f8
  rintro F H ⟨mH,bH,eH,xH,f5,f8⟩
  simp -implicitDefEqProofs only [BC,A7,FH,↓reduceIte]
  refine GL (by kernel_rfl) ?_
  simp -implicitDefEqProofs only [FC,DT,CZ,D8,DV,ED,GN,EK,D7,IB,GZ,BK,A7,ZJ,AC,AA,AY,BZ,BO,BJ,AB,jF,jE,jD,↓reduceIte,jA,jL,jG,jB,enP,AKA,EE,F8,EY,f5,f8,l7 bH,IU eH]
  refine ⟨_,AMZ G p X.length e hw H mH,?_⟩
  refine ⟨xH,?_⟩
  rw [hst]
  by_cases hz:plE p.vars e=0
  ·refine .inr ⟨hz,X.length+1,X.length,rest,l,by rw [hz],⟨by omega,by omega,by omega,rfl,⟨⟨m,bH⟩,vl,hrl⟩,⟨hrest.symm,P.pok,XT p⟩,mH⟩⟩
  ·exact .inl ⟨hz,_,.inr ⟨_,rfl⟩,rfl⟩
end
theorem AVX (h:Hp):JO Tryz.prog h 107=some (.ptr h.length 0 0,h ++ [ABlk.live 1 [[.int .i64 0]]]):=JE (row := [.int .i64 0]) (by kernel_rfl)
theorem A3M (h:Hp):JO Tryz.prog h 39=some (.ptr h.length 0 0,h ++ [ABlk.live 1 [[.int .i64 0]]]):=JE (row := [.int .i64 0]) (by kernel_rfl)
theorem AVC (h:Hp) (n:Int):FB Tryz.prog (h ++ [ABlk.live 1 [[.int .i64 0]]]) 107 (.ptr h.length 0 0) (.agg [.int .i64 n])=some (h ++ [ABlk.live 1 [[.int .i64 n]]]):=by
 rw [XG (cs := [.int .i64 n]) (QN rfl) AYT (CV _ _) (jO 1),LD]; rfl
theorem AX1 (n:Int):VJ Tryz.prog (.ifc 107 (.agg #[.int .i64 n])) 107 true=some (.tup [.agg [.int .i64 n],.bool true]):=by kernel_rfl
theorem AX2:VJ Tryz.prog .nilifc 107 true=some (.tup [.agg [.int .i64 0],.bool false]):=by kernel_rfl
theorem A2O:I8 Tryz.prog 20 .neq .nilifc .nilifc=some (.bool false):=by kernel_rfl
theorem AW6 {H:Hp} {b:Nat} {n:Int} (hb:H[b]? = some (.live 1 [[.int .i64 n]])):DF Tryz.prog H 39 (.ptr b 0 0)=some (.int .i64 n):=by rw [DI AOJ hb rfl]; rfl
theorem AVB {H:Hp} {c:Nat} {v:AV} (hc:H[c]? = some (.live 1 [[v]])) (n:Int):FB Tryz.prog H 39 (.ptr c 0 0) (.int .i64 n)=some (H.set c (.live 1 [[.int .i64 n]])):=by
 rw [GV (cs := [.int .i64 n]) rfl ASO hc rfl (by simp)]; rfl
def cZ:ABlk := .live 1 [[.int .i64 0]]
def cE:ABlk := .live 1 [[.int .i64 2]]
section
variable (G:Nat→AV)
theorem APJ (c:Nat) (h:Hp) (v:AV) (_:h[c]? = some (.live 1 [[v]])):ZZ (En G) 72 [.ptr c 0 0] h none fun H=>H=h ++ [cZ]:=by
 refine AEQ (H:=Hint.none) (enM G) Tryz.func72 rfl (by kernel_rfl) (by kernel_rfl) (jH (by kernel_rfl)) (jH (by kernel_rfl)) rfl (jH (by kernel_rfl)) ?_
 have e0:(upd (upd (KR [AV.ptr c 0 0]) 4 (AFQ none)) 1 (AFQ none)) 0 = .ptr c 0 0:=rfl
 have ei:AFQ none = .nilifc:=rfl
 rw [ei] at e0 ⊢
 show awp _ _ _ _ _ (fun e _ h'=>(match e with | .exit _=>False | _=>True)∧h'=h ++ [cZ])
 simp -implicitDefEqProofs only [jP,jQ,BC,A8,BQ,BI,A7,D9,AZ,BB,AC,AQ,AO,BD,AX,AL,DK,AA,AY,AU,AUP,BG,BA,EF,DC,BX,EJ,FP,wxP,AGR,BR,AB,CJ,↓reduceIte,jA,jB,jC,enP,jJ,AX2,AVX,AVC,A2O]
 exact ⟨trivial,rfl⟩
theorem AS1 (c:Nat) (h:Hp) (v:AV) (hc:h[c]? = some (.live 1 [[v]])):ZZ (En G) 72 [.ptr c 0 0] h (some AQY) fun H=>H=(h ++ [cE]).set c cE:=by
 refine AEQ (H:=Hint.none) (enM G) Tryz.func72 rfl (by kernel_rfl) (by kernel_rfl) (jH (by kernel_rfl)) (jH (by kernel_rfl)) rfl (jH (by kernel_rfl)) ?_
 have hc':=BN (x:=cE) hc
 have ht:=CV h cE
 have e0:(upd (upd (KR [AV.ptr c 0 0]) 4 (AFQ (some AQY))) 1 (AFQ (some AQY))) 0 = .ptr c 0 0:=rfl
 have ei:AFQ (some AQY) = .ifc 107 (.agg #[.int .i64 2]):=rfl
 rw [ei] at e0 ⊢
 show awp _ _ _ _ _ (fun e _ h'=>(match e with | .exit _=>False | _=>True)∧h'=(h ++ [cE]).set c cE)
 unfold cE at hc' ht ⊢
 simp -implicitDefEqProofs only [jP,jQ,BC,A8,BI,A7,D6,AZ,BB,AC,AQ,AO,BD,AX,AL,DK,AA,AY,BG,BA,EF,BO,DC,BJ,EJ,FP,wxP,AGR,BR,AB,CJ,BF,↓reduceIte,jA,jI,jB,jC,enP,AT6,jJ,AX1,AVX,AVC,AW6 ht,AVB hc']
 exact ⟨trivial,trivial⟩
theorem AIW {fid:FuncId} {caps:List AV} {h:Hp} {bb:Nat} {Bad:Prop} {R1:Hp→Prop} (hlt:bb < h.length) (hdo:ACalls ((En G).wx (X0 bb (h ++ [cZ]) Bad)) fid caps (h ++ [cZ]) fun _ H=>R1 H) (hR1 : ∀ H,R1 H→H[h.length]? = some cZ) :
  ACalls (En G) 38 [.fn (.func fid) [] caps] h fun v H=>(v = .int .i64 0∧∃ H',R1 H'∧H=H'.set h.length cZ ++ [cZ])∨(v = .int .i64 2∧Bad∧∃ H',Kb bb (h ++ [cZ]) H'∧H=(H' ++ [cE]).set h.length cE):=by
 have gc:=CV h cZ
 refine AKU (E:=En G) (X:=X0 bb (h ++ [cZ]) Bad) (R1:=R1) Tryz.func38 rfl (by kernel_rfl) ⟨rfl,rfl,rfl,rfl,rfl⟩ rfl
  ⟨rfl,rfl,rfl⟩ ⟨rfl,rfl,rfl⟩ ⟨rfl,rfl,rfl⟩ ⟨rfl,rfl,rfl⟩ ⟨rfl,rfl,rfl⟩ ⟨rfl,rfl,rfl⟩ (A3M h) hdo ?_ ?_
 ·intro h' r1
  have g':h'[h.length]? = some (.live 1 [[.int .i64 0]]):=hR1 h' r1
  have g2:(h'.set h.length cZ)[h.length]? = some (.live 1 [[.int .i64 0]]):=DY g'
  refine ⟨h'.set h.length cZ,AVB g' 0,?_⟩
  have hd:=APJ G h.length (h'.set h.length cZ) _ g2
  refine ⟨hd.1,fun g w cargs S ha=>(hd.2 g w cargs S ha).mono ?_⟩
  rintro e' u w' ⟨q1,q2,g3,h3,rfl,q3,q4⟩
  exact ⟨q1,q2,g3,_,⟨.int .i64 0,AW6 (BN g2),.inl ⟨rfl,h',r1,rfl⟩⟩,q3,q4⟩
 ·rintro u h' ⟨rfl,k',hb⟩
  have g':h'[h.length]? = some (.live 1 [[.int .i64 0]]):=k'.keep _ _ gc (by omega)
  have hd:=AS1 G h.length h' _ g'
  refine ⟨hd.1,fun g w cargs S ha=>(hd.2 g w cargs S ha).mono ?_⟩
  rintro e' u w' ⟨q1,q2,g3,h3,rfl,q3,q4⟩
  exact ⟨q1,q2,g3,_,⟨.int .i64 2,AW6 (DY (BN g')),.inr ⟨rfl,hb,h',k',rfl⟩⟩,q3,q4⟩
end
theorem EOk.of {p:Pr} {e:Ex} (h1:exE e=0) (h2:plE p.vars e=0):EOk p e:=by
 unfold plE at h2
 have ha:YX e=false:=by
  cases q:YX e
  ·rfl
  ·rw [q] at h2; simp at h2
 rw [ha] at h2
 have hf:VO p.vars e=false:=by
  cases q:VO p.vars e
  ·rfl
  ·rw [q] at h2; simp at h2
 unfold YX at ha
 unfold VO at hf
 rw [List.any_eq_false] at ha hf
 intro x hx
 have a:=ha x hx
 have f:=hf x hx
 unfold PL at a
 unfold Q4 at f
 refine ⟨AEJ h1 x hx,?_,fun h => ?_⟩
 ·simp at a; exact a
 ·have:=YB x.name p.vars
  cases hq:fnm x.name p.vars with
  | some i=>exact ⟨i,rfl⟩
  | none =>
    rw [hq] at this
    exact absurd (by simp [h]; exact this) f
theorem AMH {e:Ex} (h0:exE e=0):(pre e).length≤1048576:=by
 unfold exE at h0
 split at h0
 ·cases h0
 ·rename_i q; rw [h0] at q; simp at q; omega
def QCall (E:Env) (f:FuncId) (args:List AV) (h:Hp) (Q:AV→Prop):Prop:=ACalls E.nox f args h fun v h'=>Q v∧h'=h
theorem QCall.use {E:Env} {f:FuncId} {args:List AV} {h:Hp} {Q:AV→Prop} {K:AV→Hp→Prop} (hc:QCall E f args h Q) (hk : ∀ r,Q r→K r h):ACalls E f args h K :=
 ACalls.mono (ACalls.ofNox hc) fun r _ ⟨e1,e2⟩=>by rw [e2]; exact hk r e1
theorem ACalls.pureQ {E:Env} {f:FuncId} {args:List AV} {h:Hp} {R:AV→Hp→Prop} {Q:AV→Prop} (d:Nat) (hc:ACalls E f args h R)
  (hk : ∀ v h',R v h'→ext h h'∧Q (JR h.length h' d v)) (hX:E.nox=E:=by rfl):QCall E f args h Q:=by
 unfold QCall
 rw [hX]
 refine hc.trunc fun v h' hR => ?_
 obtain ⟨⟨x,rfl⟩,hr⟩:=hk v h' hR
 exact ⟨d,h,rfl,fun b hb => .inr (.inl ⟨by rw [zM hb],by rw [zM hb]⟩),hr,rfl⟩
def zD:AV := .agg [.sl .nil 0 []]
def wI (w:Wrd):List Int:=w.map fun n:Nat=>(n:Int)
def WordQ (R:List Rn) (p:Pr) (e:Ex) (v:AV):Prop:=(stE R p e≠0∧v = .tup [zD,.sl .nil 0 [],.int .i64 (stE R p e)]) ∨
 (stE R p e=0∧∃ l,R=l.map Nd.raw∧VD l∧((RY p (KC p) e l=none∧v = .tup [zD,.sl .nil 0 [],.int .i64 2])∨∃ w l' m,RY p (KC p) e l=some (w,l')∧v = .tup [dgA m l',.sl .any 1 ((wI w).map qencI),.int .i64 0]))
def ARZ (R:List Rn) (p:Pr) (e:Ex) (v:AV):Prop:=(stE R p e≠0∧v = .tup [zD,.int .i64 0,.int .i64 (stE R p e)]) ∨
 (stE R p e=0∧∃ l,R=l.map Nd.raw∧VD l∧((AFB p (KC p) e l=none∧v = .tup [zD,.int .i64 0,.int .i64 2])∨∃ t l' m,AFB p (KC p) e l=some (t,l')∧v = .tup [dgA m l',iA t,.int .i64 0]))
theorem AJA {R:List Rn} {p:Pr} {e:Ex} (h:stE R p e=0):NJ p=0∧exE e=0∧EOk p e:=by
 unfold stE at h
 split at h
 ·split at h
  ·split at h
   ·rename_i a b c; exact ⟨b,c,EOk.of c h⟩
   ·cases h
  ·cases h
 ·cases h
structure K2 (bb wb:Nat) (H H':Hp):Prop where
 len:H.length≤H'.length
 keep : ∀ (k:Nat) (y:ABlk),H[k]? = some y→k≠bb→k≠wb→H'[k]? = some y
section
variable (G:Nat→AV)
theorem ldB {H:Hp} {b bb:Nat} (hb:H[b]? = some (.live 1 [[.ptr bb 0 0]])):DF Tryz.prog H 68 (.ptr b 0 0)=some (.ptr bb 0 0):=by rw [DI AUU hb rfl]; rfl
theorem A2Y {p:Pr} {e:Ex} (he:EOk p e) (hlen:(pre e).length≤1048576) {bb mb:Nat} {rest:List AV} {l:Dg} {h:Hp} (s:PS bb rest l h) (hP:Pk p (KC p) .any mb rest) (hmb:h[mb]? = some (.map (nmR p.vars 0))) (nmb:mb≠bb) {cb eb wb:Nat}
  (hcb:h[cb]? = some (.live 1 [[.ptr bb 0 0]])) (heb:h[eb]? = some (.live 4 [DR e])) (hwb:isW h wb zW) (nw:wb≠bb) :
  ACalls ((En G).wx (X0 bb h (RY p (KC p) e l=none))) 49 ([] ++ [.ptr cb 0 0,.ptr eb 0 0,.ptr wb 0 0]) h fun _ H => ∃ w l',RY p (KC p) e l=some (w,l')∧w.length=16∧PS bb rest l' H∧isW H wb w∧K2 bb wb h H:=by
 refine KL (H:=Hint.none) (enM G) Tryz.func49 rfl (by kernel_rfl) (by kernel_rfl) (jH (by kernel_rfl)) ?_
 show awp _ _ _ _ _ (EH _ [] _)
 simp -implicitDefEqProofs only [A8,AZ,AC,AQ,AO,BD,AX,AL,AA,AY,BZ,BO,CB,BP,wxP,AB,BF,BU,jF,jE,jD,zU,↓reduceIte,jA,jB,jC,enP,ldB hcb,IU heb]
 refine (word_prog G hP nmb e he hlen s hmb).use (k:=fun r=>ret r) (TOT:=RY p (KC p) e l) (JM _ _) id (Kb.rfl' _ _) ?_
 intro w l1 H1 ew _ s1 k1
 have w16:=((PO (p:=p) (lvs:=KC p) hP.ok e he l s.v) w l1 ew).2.2.2.1.1
 have qw:=k1.keep _ _ hwb nw
 simp -implicitDefEqProofs only [ACM,AZ,BB,AC,AQ,AO,BD,AX,AL,DK,AA,AY,DC,wxP,CJ,BF,BU,↓reduceIte,jA,jC,enP,jJ,TV qw (by rfl) w16]
 exact ⟨w,l1,ew,w16,s1.set nw _,DY qw,⟨by rw [qE]; exact k1.len,fun k y hk n1 n2=>by rw [jR (Ne.symm n2)]; exact k1.keep k y hk n1⟩⟩
theorem A2Z {p:Pr} {e:Ex} (he:EOk p e) (hlen:(pre e).length≤1048576) {bb mb:Nat} {rest:List AV} {l:Dg} {h:Hp} (s:PS bb rest l h) (hP:Pk p (KC p) .any mb rest) (hmb:h[mb]? = some (.map (nmR p.vars 0))) (nmb:mb≠bb) {cb eb tb:Nat}
  (hcb:h[cb]? = some (.live 1 [[.ptr bb 0 0]])) (heb:h[eb]? = some (.live 4 [DR e])) (htb:h[tb]? = some cZ) (nt:tb≠bb) (nc:cb≠bb) :
  ACalls ((En G).wx (X0 bb h (AFB p (KC p) e l=none))) 39 ([] ++ [.ptr cb 0 0,.ptr eb 0 0,.ptr tb 0 0]) h fun _ H => ∃ t l',AFB p (KC p) e l=some (t,l')∧PS bb rest l' H∧H[tb]? = some (.live 1 [[iA t]])∧K2 bb tb h H:=by
 refine KL (H:=Hint.none) (enM G) Tryz.func39 rfl (by kernel_rfl) (by kernel_rfl) (jH (by kernel_rfl)) ?_
 show awp _ _ _ _ _ (EH _ [] _)
 generalize hT:AFB p (KC p) e l=TOT
 have hS:((RY p (KC p) e).bnd fun w=>trL w 0) l=TOT:=hT
 have fin : ∀ (w:Wrd) (l1:Dg) (H1:Hp),RY p (KC p) e l=some (w,l1)→PS bb rest l1 H1→Kb bb h H1→(w.length=16∧LOk l1 w)∧H1[cb]? = some (.live 1 [[.ptr bb 0 0]])∧H1[tb]? = some cZ:=fun w l1 H1 ew _ k1 =>
  ⟨((PO (p:=p) (lvs:=KC p) hP.ok e he l s.v) w l1 ew).2.2.2.1,k1.keep _ _ hcb nc,k1.keep _ _ htb nt⟩
 simp -implicitDefEqProofs only [wxP,zU,enP]
 refine GI (.ones [1,2] (.alt 0 (.alt 3 (.alt 4 (.ones [5] .done) .non) .non) (.alt 3 (.ones [0] (.alt 4 (.ones [5] .done) .non)) .non))) (by kernel_rfl) ?_
 simp only [DN,JQ,jQ,jP]
 simp -implicitDefEqProofs only [FC,DT,CZ,D8,DV,EK,IX,ACM,AC,AA,AY,BZ,BO,DC,CB,BP,wxP,AB,BF,BU,jF,jE,jD,↓reduceIte,jA,jL,jG,jB,enP,jJ,ldB hcb,IU heb,GR,GU]
 refine ⟨⟨?_,trivial⟩,?_,trivial⟩
 all_goals
  refine (word_prog G hP nmb e he hlen s hmb).use hS (fun q=>q) (Kb.rfl' _ _) ?_
  intro w l1 H1 ew hS1 s1 k1
  obtain ⟨⟨w16,ow⟩,hc1,ht1⟩:=fin w l1 H1 ew s1 k1
  simp -implicitDefEqProofs only [CZ,D8,AA,AB,BF,↓reduceIte,jA,ldB hc1,GR,GU]
  refine ⟨(MW G s1 w w16 ow).use (k:=fun r=>ret r) (by rw [JM]; exact hS1) (fun q=>q) k1 ?_,trivial⟩
  intro t l2 H2 et hS2 s2 k2
  have ht2:H2[tb]? = some (.live 1 [[.int .i64 0]]):=k2.keep _ _ ht1 nt
  have st3:FB Tryz.prog H2 3 (.ptr tb 0 0) (iA t)=some (H2.set tb (.live 1 [[iA t]])):=by
   rw [GV (cs := [iA t]) rfl sz3 ht2 rfl (by simp)]; rfl
  simp -implicitDefEqProofs only [H9,D8,AA,CJ,BF,BU,↓reduceIte,jA,st3,GR,GU]
  have k12:=k1.trans k2
  exact ⟨t,l2,hS2.symm,s2.set nt _,DY ht2,⟨by rw [qE]; exact k12.len,fun k y hk n1 n2=>by rw [jR (Ne.symm n2)]; exact k12.keep k y hk n1⟩⟩
end
theorem AF0 {h H:Hp} (hk : ∀ (k:Nat) (y:ABlk),h[k]? = some y→H[k]? = some y) (_:h.length≤H.length):ext h H:=by
 refine ⟨H.drop h.length,?_⟩
 apply List.ext_getElem?
 intro i
 by_cases hi:i < h.length
 ·rw [zM hi,jS hi]
  exact hk i _ (jS hi)
 ·rw [List.getElem?_append_right (by omega),List.getElem?_drop,show h.length+(i - h.length)=i by omega]
theorem AUT (h:Hp):JO Tryz.prog h 68=some (.ptr h.length 0 0,h ++ [ABlk.live 1 [[.nilp]]]):=JE (row := [.nilp]) (by kernel_rfl)
theorem ASP (h:Hp) {u:AV} (hu:u = .nilp∨∃ b,u = .ptr b 0 0):FB Tryz.prog (h ++ [ABlk.live 1 [[.nilp]]]) 68 (.ptr h.length 0 0) u=some (h ++ [ABlk.live 1 [[u]]]):=by
 rcases hu with rfl | ⟨b,rfl⟩
 ·rw [GV (cs := [.nilp]) rfl AYR (CV _ _) rfl (by simp),LD]; rfl
 ·rw [GV (cs := [.ptr b 0 0]) rfl AYR (CV _ _) rfl (by simp),LD]; rfl
theorem slA {H:Hp} {b:Nat} {w:Wrd} (hb:isW H b w) (hw:w.length=16):VI Tryz.prog H 74 (.ptr b 0 0) none none none=some (.own H.length 0 16,H.set b .dead ++ [.live 1 ((wI w).map qencI)]):=by
 have e:(cW w).map (fun v => [v])=(wI w).map qencI:=by unfold cW wI; rw [List.map_map,List.map_map]; rfl
 unfold VI
 simp only [AWI,hb,sz3]
 rw [if_pos ⟨trivial,by rw [LZ,hw],by omega⟩,e]
theorem ABM (w:Wrd):(wI w).length=w.length:=by unfold wI; simp
section
variable (G:Nat→AV)
set_option maxHeartbeats 8000000 in
theorem VK (hG:GOk G) (R:List Rn) (m:SM) (hR:R.length≤1048576) (p:Pr) (hs:PrS p) (e:Ex) (hw:wt e≤1048576) (h:Hp):QCall (En G) 20 [.agg [.sl m 3 (R.map EG)],.agg (DZ p),.agg (DR e)] h (WordQ R p e):=by
 refine ACalls.pureQ 4 (R:=fun v H=>ext h H∧((WordQ R p e v∧∃ k,v = .tup [zD,.sl .nil 0 [],.int .i64 k])∨(stE R p e=0∧∃ l,R=l.map Nd.raw∧VD l∧∃ w l' m ob,RY p (KC p) e l=some (w,l')∧h.length≤ob∧H[ob]? = some (.live 1 ((wI w).map qencI))∧v = .tup [dgA m l',.own ob 0 (wI w).length,.int .i64 0]))) ?_ ?H
 case H =>
  rintro v H ⟨hx,⟨hq,k,rfl⟩ | ⟨h0,l,hl,vl,w,l',m',ob,hw,ho,hb,rfl⟩⟩
  ·exact ⟨hx,hq⟩
  ·refine ⟨hx,.inr ⟨h0,l,hl,vl,.inr ⟨w,l',m',hw,?_⟩⟩⟩
   have:=VA (d:=1) (n:=h.length) AT2 ho hb
   show AV.tup [_,JR h.length H 3 (.own ob 0 (wI w).length),_]=_
   rw [this]; rfl
 refine KL (H:=hint [34] []) (enM G) Tryz.func20 rfl (by kernel_rfl) (by kernel_rfl) (jH (by kernel_rfl)) ?_
 show awp _ _ _ _ _ (EH _ [.cell 6 35,.tmp 7,.tmp 8] _)
 simp -implicitDefEqProofs only [F9,jZ,jY,zA,jW,BC,A8,A7,AZ,BB,AO,BD,AX,AL,AA,AY,AU,BH,L8,BA,EF,FK,BO,BR,BF,BU,↓reduceIte,jA,jB,jC,enP,G8,UA,TZ,bxE,OO]
 generalize hX:h ++ [ABlk.live 1 [[.sl m 3 (R.map EG)]]] ++ [ABlk.live 5 [DZ p]] ++ [ABlk.live 4 [DR e]] ++ [ABlk.live 1 [[.sl .nil 0 []]]]=X
 have hx:ext h X:=by rw [← hX]; exact ((((ext.rfl' h).app _).app _).app _).app _
 have q3:X[h.length]? = some (.live 1 [[.sl m 3 (R.map EG)]]):=by rw [← hX]; exact BN (BN (BN (CV _ _)))
 have q4:X[h.length+1]? = some (.live 5 [DZ p]):=by rw [← hX]; exact BN (BN (GK (by simp)))
 have q5:X[h.length+2]? = some (.live 4 [DR e]):=by rw [← hX]; exact BN (GK (by simp))
 have q6:X[h.length+3]? = some (.live 1 [[.sl .nil 0 []]]):=by rw [← hX]; exact GK (by simp)
 have e1:(h ++ [ABlk.live 1 [[AV.sl m 3 (R.map EG)]]]).length=h.length+1:=by simp
 have e2:(h ++ [ABlk.live 1 [[AV.sl m 3 (R.map EG)]]] ++ [ABlk.live 5 [DZ p]]).length=h.length+2:=by simp
 have e3:(h ++ [ABlk.live 1 [[AV.sl m 3 (R.map EG)]]] ++ [ABlk.live 5 [DZ p]] ++ [ABlk.live 4 [DR e]]).length=h.length+3:=by simp
 have e4:X.length=h.length+4:=by rw [← hX]; simp
 rw [e1,e2,e3]
 clear hX
 have ldp:DF Tryz.prog X 27 (.ptr (h.length+1) 0 0)=some (.agg (DZ p)):=by rw [GH VR UG q4 (row:=DZ p) rfl (by rw [JF]; exact jO 5)]; rfl
 simp -implicitDefEqProofs only [F9,jZ,jY,zA,jW,AZ,AO,BD,AX,AL,AA,AY,BZ,BO,CB,BP,AB,jF,jE,jD,↓reduceIte,jA,jB,jC,enP,G8,JA q3,ldp,IU q5]
 refine ACalls.mono (ABQ G hG R m hR p hs e hw X) ?_
 rintro v H1 ⟨hx1,⟨hne,u,hu,rfl⟩ | ⟨h0,bb,mb,rest,l,rfl,S⟩⟩
 ·have q6':=BN (x:=ABlk.live 1 [[u]]) (FN hx1 q6)
  have hc:(stE R p e != 0)=true:=by simpa using hne
  simp -implicitDefEqProofs only [jP,jQ,FT,F9,jZ,jY,zA,jW,BC,A8,BK,BI,A7,CW,D6,AZ,BB,AO,BD,AX,AL,DK,AA,AY,AU,BH,L8,BG,BA,EF,H8,DC,BX,EJ,FP,BR,AB,CJ,EU,↓reduceIte,jA,jB,jC,enP,G8,jJ,AUT,ASP H1 hu,hc,YW,LP q6']
  rw [JJ _ _ _ _ _ _ _ _ _ _ _ (show _=AV.ptr (h.length+3) 0 0 by simp -implicitDefEqProofs only [AA,↓reduceIte,jA]),JA (DY q6')]
  simp -implicitDefEqProofs only [AA,↓reduceIte,jA]
  exact ⟨_,rfl,((hx.trans hx1).app _).set (by omega) _,.inl ⟨.inl ⟨hne,rfl⟩,_,rfl⟩⟩
 obtain ⟨hv0,hx0,hok⟩:=AJA h0
 have q6:=FN hx1 q6
 have q5:=FN hx1 q5
 have l1:=BV q6
 simp -implicitDefEqProofs only [jP,jQ,F9,jZ,jY,zA,jW,BC,A8,BQ,BI,A7,D9,AZ,BB,AO,BD,AX,AL,DK,AA,AY,AU,BZ,BH,BG,BA,EF,DC,BX,II,EJ,FP,CB,BP,BR,AB,CJ,EU,jF,jE,jD,↓reduceIte,jA,jB,jC,enP,G8,jJ,AUT,ASP H1 (.inr ⟨bb,rfl⟩),bne_self_eq_false,SV]
 have hb0:=S.b0
 have hm0:=S.m0
 have bl:=S.s.lt
 have ml:=BV S.mp
 generalize hY:H1 ++ [ABlk.live 1 [[.ptr bb 0 0]]] ++ [ABlk.live 16 [cW (jK 16 0)]]=Y
 have yx:ext H1 Y:=by rw [← hY]; exact ((ext.rfl' H1).app _).app _
 have q9:Y[H1.length]? = some (.live 1 [[.ptr bb 0 0]]):=by rw [← hY]; exact BN (CV _ _)
 have q11:isW Y (H1.length+1) zW:=by rw [← hY]; exact GK (by simp)
 have y1:(H1 ++ [ABlk.live 1 [[AV.ptr bb 0 0]]]).length=H1.length+1:=by simp
 have y2:Y.length=H1.length+2:=by rw [← hY]; simp
 rw [y1]
 clear hY
 have q6:=FN yx q6
 have q5:=FN yx q5
 have sY:=S.s.ext yx
 have mY:=FN yx S.mp
 refine ACalls.mono (AIW G (bb:=bb) (by omega) (A2Y G hok (AMH hx0) (sY.app cZ) S.k (BN mY) S.ne (BN q9) (BN q5) (BN q11) (by omega)) ?_) ?_
 ·rintro H ⟨w,l',_,_,_,_,k2⟩
  exact k2.keep _ _ (CV _ _) (by omega) (by omega)
 have hkY : ∀ (k:Nat) (y:ABlk),h[k]? = some y→k < h.length∧(Y ++ [cZ])[k]? = some y:=fun k y q=>⟨BV q,BN (FN yx (FN hx1 (FN hx q)))⟩
 rintro v H (⟨rfl,H',⟨w,l',ew,w16,s',qw,k2⟩,rfl⟩ | ⟨rfl,hbad,H',kb,rfl⟩)
 ·have q6':(H'.set Y.length cZ ++ [cZ])[h.length+3]? = some (.live 1 [[.sl .nil 0 []]]):=BN (by rw [jR (by omega)]; exact k2.keep _ _ (BN q6) (by omega) (by omega))
  have q9':(H'.set Y.length cZ ++ [cZ])[H1.length]? = some (.live 1 [[.ptr bb 0 0]]):=BN (by rw [jR (by omega)]; exact k2.keep _ _ (BN q9) (by omega) (by omega))
  have qw':isW (H'.set Y.length cZ ++ [cZ]) (H1.length+1) w:=BN (by rw [jR (by omega)]; exact qw)
  have s':=(s'.set (c:=Y.length) (by omega) cZ).app cZ
  have hkH : ∀ (k:Nat) (y:ABlk),h[k]? = some y→(H'.set Y.length cZ ++ [cZ])[k]? = some y:=fun k y q=>by
   obtain ⟨a,b⟩:=hkY k y q
   exact BN (by rw [jR (by omega)]; exact k2.keep _ _ b (by omega) (by omega))
  have hlH:h.length < (H'.set Y.length cZ ++ [cZ]).length:=by have:=BV q6'; omega
  generalize H'.set Y.length cZ ++ [cZ]=Z at q6' q9' qw' s' hkH hlH ⊢
  obtain ⟨m',hbb⟩:=s'.b
  have ldd : ∀ {H:Hp},H[bb]? = some (.live 8 [.sl m' 3 (l'.map DJ) :: rest])→DF Tryz.prog H 35 (.ptr bb 0 0)=some (.agg [.sl m' 3 (l'.map DJ)]):=fun q=>by
   rw [GH AUW AM3 q (row := .sl m' 3 (l'.map DJ) :: rest) rfl (by simp)]; rfl
  have hld:=ldd hbb
  have zl:=BV q6'
  have zw:=BV qw'
  simp -implicitDefEqProofs only [F9,jZ,jY,zA,jW,BC,A8,BQ,BI,A7,D9,AZ,BB,AO,BD,AX,AL,AA,AY,AU,BH,BG,BA,BX,AB,EU,↓reduceIte,jB,jC,enP,G8,bne_self_eq_false]
  refine GI (.alt 0 (.ones [1,2] (.alt 3 (.alt 4 (.ones [5,6,7] .done) (.alt 5 (.alt 4 (.ones [6,7] .done) .non) .non)) (.alt 4 (.ones [3,5,6,7] .done) (.non)))) (.alt 4 (.ones [0,1,2,3,5,6,7] .done) (.non))) (by kernel_rfl) ?_
  simp only [DN,JQ,jQ,jP]
  simp -implicitDefEqProofs only [FC,Option.map_none,F9,jZ,jY,zA,jW,DT,CZ,D8,DV,GN,EK,IX,D7,BK,A7,AA,AY,AU,BH,BO,DC,BJ,BR,AB,↓reduceIte,jA,jL,jI,jG,jB,enP,RJ,jJ,EE,F8,EY,ldB q9',hld,slA qw' w16,GR,GU,AGQ]
  have qs : ∀ {c:Nat} {y B:ABlk},Z[c]? = some y→c≠H1.length+1→(Z.set (H1.length+1) ABlk.dead ++ [B])[c]? = some y:=fun q hne=>BN (by rw [jR (Ne.symm hne)]; exact q)
  have q6a:=qs (B := .live 1 ((wI w).map qencI)) q6' (by omega)
  have q9a:=qs (B := .live 1 ((wI w).map qencI)) q9' (by omega)
  have hlda:=ldd (qs (B := .live 1 ((wI w).map qencI)) hbb (by omega))
  have st0:=LP q6' m' 3 (l'.map DJ)
  have st1:=LP q6a m' 3 (l'.map DJ)
  have sl1:=slA (H:=Z.set (h.length+3) (.live 1 [[.sl m' 3 (l'.map DJ)]])) (b:=H1.length+1) (w:=w) (by unfold isW; rw [jR (by omega)]; exact qw') w16
  have fin : ∀ Z':Hp,(∀ (k:Nat) (y:ABlk),k < h.length→Z[k]? = some y→Z'[k]? = some y)→Z.length < Z'.length→Z'[Z.length]? = some (.live 1 ((wI w).map qencI)) →
    ext h Z'∧((WordQ R p e (.tup [.agg [.sl m' 3 (l'.map DJ)],.own Z.length 0 16,.int .i64 0])∧∃ k,AV.tup [.agg [.sl m' 3 (l'.map DJ)],.own Z.length 0 16,.int .i64 0] = .tup [zD,.sl .nil 0 [],.int .i64 k])∨(stE R p e=0∧∃ l,R=l.map Nd.raw∧VD l∧∃ w l'' m ob,RY p (KC p) e l=some (w,l'')∧h.length≤ob∧Z'[ob]? = some (.live 1 ((wI w).map qencI))∧AV.tup [.agg [.sl m' 3 (l'.map DJ)],.own Z.length 0 16,.int .i64 0] = .tup [dgA m l'',.own ob 0 (wI w).length,.int .i64 0])):=by
   intro Z' hk hl ho
   refine ⟨AF0 (fun k y q=>hk k y (BV q) (hkH k y q)) (by omega),.inr ⟨h0,l,S.r,S.s.v,w,l',m',Z.length,ew,by omega,ho,?_⟩⟩
   rw [ABM,w16]; rfl
  have dl:(Z.set (H1.length+1) ABlk.dead).length=Z.length:=qE
  have el:(Z.set (h.length+3) (.live 1 [[.sl m' 3 (l'.map DJ)]])).length=Z.length:=qE
  rw [el] at sl1
  simp -implicitDefEqProofs only [FC,F9,jZ,jY,zA,jW,DT,CZ,H9,D8,DV,GN,EK,IX,D7,AA,AY,AU,BH,BO,DC,BJ,BR,AB,CJ,↓reduceIte,jA,jL,jI,jG,jB,enP,RJ,jJ,EE,F8,EY,ldB q9',ldB q9a,hld,hlda,st0,st1,slA qw' w16,sl1,GR,GU,AGQ,and_true]
  have kA : ∀ (k:Nat) (y:ABlk),k < h.length→Z[k]? = some y→((Z.set (H1.length+1) ABlk.dead ++ [ABlk.live 1 ((wI w).map qencI)]).set (h.length+3) (.live 1 [[.sl m' 3 (l'.map DJ)]]))[k]? = some y:=fun k y hk q=>by
   rw [jR (by omega)]; exact qs q (by omega)
  have oA:((Z.set (H1.length+1) ABlk.dead ++ [ABlk.live 1 ((wI w).map qencI)]).set (h.length+3) (.live 1 [[.sl m' 3 (l'.map DJ)]]))[Z.length]? = some (.live 1 ((wI w).map qencI)):=by
   rw [jR (by omega)]; exact GK dl
  have kB : ∀ (k:Nat) (y:ABlk),k < h.length→Z[k]? = some y→((Z.set (h.length+3) (.live 1 [[.sl m' 3 (l'.map DJ)]])).set (H1.length+1) ABlk.dead ++ [ABlk.live 1 ((wI w).map qencI)])[k]? = some y:=fun k y hk q=>BN (by
   rw [jR (by omega),jR (by omega)]; exact q)
  have oB:((Z.set (h.length+3) (.live 1 [[.sl m' 3 (l'.map DJ)]])).set (H1.length+1) ABlk.dead ++ [ABlk.live 1 ((wI w).map qencI)])[Z.length]? = some (.live 1 ((wI w).map qencI)):=GK (by simp)
  have rB:((Z.set (h.length+3) (.live 1 [[.sl m' 3 (l'.map DJ)]])).set (H1.length+1) ABlk.dead ++ [ABlk.live 1 ((wI w).map qencI)])[h.length+3]? = some (.live 1 [[.sl m' 3 (l'.map DJ)]]):=BN (by rw [jR (by omega)]; exact DY q6')
  refine ⟨⟨⟨?_,?_⟩,?_⟩,?_⟩
  case refine_2 =>
   rw [JJ _ _ _ _ _ _ _ _ _ _ _ (show _=AV.ptr (h.length+3) 0 0 by simp -implicitDefEqProofs only [AA,↓reduceIte,jA]),JA rB]
   simp -implicitDefEqProofs only [AA,↓reduceIte,jA]
   exact ⟨_,rfl,fin _ kB (by simp) oB⟩
  all_goals
   rw [JJ _ _ _ _ _ _ _ _ _ _ _ (show _=AV.ptr (h.length+3) 0 0 by simp -implicitDefEqProofs only [AA,↓reduceIte,jA]),JA (DY q6a)]
   simp -implicitDefEqProofs only [AA,↓reduceIte,jA]
   exact ⟨_,rfl,fin _ kA (by simp) oA⟩
 ·have q6':((H' ++ [cE]).set Y.length cE)[h.length+3]? = some (.live 1 [[.sl .nil 0 []]]):=by
   rw [jR (by omega)]; exact BN (kb.keep _ _ (BN q6) (by omega))
  have hkH : ∀ (k:Nat) (y:ABlk),h[k]? = some y→((H' ++ [cE]).set Y.length cE)[k]? = some y:=fun k y q=>by
   obtain ⟨a,b⟩:=hkY k y q
   rw [jR (by omega)]; exact BN (kb.keep _ _ b (by omega))
  have hlH:h.length < ((H' ++ [cE]).set Y.length cE).length:=by have:=BV q6'; omega
  generalize (H' ++ [cE]).set Y.length cE=Z at q6' hkH hlH ⊢
  simp -implicitDefEqProofs only [FT,F9,jZ,jY,zA,jW,BC,A8,BK,BI,A7,CW,D6,AZ,BB,AO,BD,AX,AL,DK,AA,AY,AU,BH,L8,BG,BA,H8,DC,BX,AB,CJ,EU,↓reduceIte,jA,jB,jC,enP,G8,jJ,show ((2:Int) != 0)=true from rfl,YW,LP q6']
  rw [JJ _ _ _ _ _ _ _ _ _ _ _ (show _=AV.ptr (h.length+3) 0 0 by simp -implicitDefEqProofs only [AA,↓reduceIte,jA]),JA (DY q6')]
  simp -implicitDefEqProofs only [AA,↓reduceIte,jA]
  refine ⟨_,rfl,AF0 (fun k y q=>by rw [jR (by have:=BV q; omega)]; exact hkH k y q) (by rw [qE]; omega),.inl ⟨.inr ⟨h0,l,S.r,S.s.v,.inl ⟨hbad,rfl⟩⟩,_,rfl⟩⟩
end
theorem A2A (h:Hp):FB Tryz.prog (h ++ [ABlk.live 1 [[.int .i64 0]]]) 3 (.ptr h.length 0 0) (.int .i64 0)=some (h ++ [ABlk.live 1 [[.int .i64 0]]]):=by
 rw [GV (cs := [.int .i64 0]) rfl sz3 (CV _ _) rfl (by simp),LD]; rfl
section
variable (G:Nat→AV)
set_option maxHeartbeats 8000000 in
theorem AC9 (hG:GOk G) (R:List Rn) (m:SM) (hR:R.length≤1048576) (p:Pr) (hs:PrS p) (e:Ex) (hw:wt e≤1048576) (h:Hp):QCall (En G) 15 [.agg [.sl m 3 (R.map EG)],.agg (DZ p),.agg (DR e)] h (ARZ R p e):=by
 refine ACalls.pureQ 4 (R:=fun v H=>ext h H∧(ARZ R p e v∧((∃ k,v = .tup [zD,.int .i64 0,.int .i64 k])∨∃ m l t,v = .tup [dgA m l,iA t,.int .i64 0]))) ?_ ?H
 case H =>
  rintro v H ⟨hx,hq,⟨k,rfl⟩ | ⟨m,l,t,rfl⟩⟩
  ·exact ⟨hx,hq⟩
  ·exact ⟨hx,hq⟩
 refine acN Tryz.func15 rfl ?_
 show awp _ _ _ _ _ (EH _ [.cell 6 35,.tmp 7,.tmp 8] _)
 simp -implicitDefEqProofs only [BC,A8,A7,AZ,BB,AC,AQ,AO,BD,AX,AL,AA,AY,AU,BH,BA,EF,FK,BO,BR,BF,BU,↓reduceIte,jA,jB,jC,enP,UA,TZ,bxE,OO]
 generalize hX:h ++ [ABlk.live 1 [[.sl m 3 (R.map EG)]]] ++ [ABlk.live 5 [DZ p]] ++ [ABlk.live 4 [DR e]] ++ [ABlk.live 1 [[.sl .nil 0 []]]]=X
 have hx:ext h X:=by rw [← hX]; exact ((((ext.rfl' h).app _).app _).app _).app _
 have q3:X[h.length]? = some (.live 1 [[.sl m 3 (R.map EG)]]):=by rw [← hX]; exact BN (BN (BN (CV _ _)))
 have q4:X[h.length+1]? = some (.live 5 [DZ p]):=by rw [← hX]; exact BN (BN (GK (by simp)))
 have q5:X[h.length+2]? = some (.live 4 [DR e]):=by rw [← hX]; exact BN (GK (by simp))
 have q6:X[h.length+3]? = some (.live 1 [[.sl .nil 0 []]]):=by rw [← hX]; exact GK (by simp)
 have e1:(h ++ [ABlk.live 1 [[AV.sl m 3 (R.map EG)]]]).length=h.length+1:=by simp
 have e2:(h ++ [ABlk.live 1 [[AV.sl m 3 (R.map EG)]]] ++ [ABlk.live 5 [DZ p]]).length=h.length+2:=by simp
 have e3:(h ++ [ABlk.live 1 [[AV.sl m 3 (R.map EG)]]] ++ [ABlk.live 5 [DZ p]] ++ [ABlk.live 4 [DR e]]).length=h.length+3:=by simp
 have e4:X.length=h.length+4:=by rw [← hX]; simp
 rw [e1,e2,e3]
 clear hX
 have ldp:DF Tryz.prog X 27 (.ptr (h.length+1) 0 0)=some (.agg (DZ p)):=by rw [GH VR UG q4 (row:=DZ p) rfl (by rw [JF]; exact jO 5)]; rfl
 simp -implicitDefEqProofs only [AZ,AC,AQ,AO,BD,AX,AL,AA,AY,BZ,BO,CB,BP,AB,jF,jE,jD,↓reduceIte,jA,jB,jC,enP,JA q3,ldp,IU q5]
 refine ACalls.mono (ABQ G hG R m hR p hs e hw X) ?_
 rintro v H1 ⟨hx1,⟨hne,u,hu,rfl⟩ | ⟨h0,bb,mb,rest,l,rfl,S⟩⟩
 ·have q6':=BN (x:=ABlk.live 1 [[u]]) (FN hx1 q6)
  have hc:(stE R p e != 0)=true:=by simpa using hne
  simp -implicitDefEqProofs only [jP,jQ,FT,BC,A8,BK,BI,A7,CW,D6,AZ,BB,AC,AQ,AO,BD,AX,AL,DK,AA,AY,AU,BH,BG,BA,EF,H8,DC,BX,EJ,FP,BR,AB,CJ,EU,↓reduceIte,jA,jB,jC,enP,jJ,AUT,ASP H1 hu,hc,YW,LP q6']
  rw [JJ _ _ _ _ _ _ _ _ _ _ _ (show _=AV.ptr (h.length+3) 0 0 by simp -implicitDefEqProofs only [AA,↓reduceIte,jA]),JA (DY q6')]
  simp -implicitDefEqProofs only [AA,↓reduceIte,jA]
  exact ⟨_,rfl,((hx.trans hx1).app _).set (by omega) _,.inl ⟨hne,rfl⟩,.inl ⟨_,rfl⟩⟩
 obtain ⟨hv0,hx0,hok⟩:=AJA h0
 have q6:=FN hx1 q6
 have q5:=FN hx1 q5
 have l1:=BV q6
 simp -implicitDefEqProofs only [jP,jQ,BC,A8,BQ,BI,A7,D9,AZ,BB,AC,AQ,AO,BD,AX,AL,DK,AA,AY,AU,BZ,BH,BG,BA,EF,DC,BX,II,EJ,FP,CB,BP,BR,AB,CJ,EU,jF,jE,jD,↓reduceIte,jA,jB,jC,enP,jJ,AUT,ASP H1 (.inr ⟨bb,rfl⟩),bne_self_eq_false,al3,A2A]
 have hb0:=S.b0
 have hm0:=S.m0
 have bl:=S.s.lt
 have ml:=BV S.mp
 generalize hY:H1 ++ [ABlk.live 1 [[.ptr bb 0 0]]] ++ [ABlk.live 1 [[.int .i64 0]]]=Y
 have yx:ext H1 Y:=by rw [← hY]; exact ((ext.rfl' H1).app _).app _
 have q9:Y[H1.length]? = some (.live 1 [[.ptr bb 0 0]]):=by rw [← hY]; exact BN (CV _ _)
 have q11:Y[H1.length+1]? = some cZ:=by rw [← hY]; exact GK (by simp)
 have y1:(H1 ++ [ABlk.live 1 [[AV.ptr bb 0 0]]]).length=H1.length+1:=by simp
 have y2:Y.length=H1.length+2:=by rw [← hY]; simp
 rw [y1]
 clear hY
 have q6:=FN yx q6
 have q5:=FN yx q5
 have sY:=S.s.ext yx
 have mY:=FN yx S.mp
 refine ACalls.mono (AIW G (bb:=bb) (by omega) (A2Z G hok (AMH hx0) (sY.app cZ) S.k (BN mY) S.ne (BN q9) (BN q5) (BN q11) (by omega) (by omega)) ?_) ?_
 ·rintro H ⟨t,l',_,_,_,k2⟩
  exact k2.keep _ _ (CV _ _) (by omega) (by omega)
 have hkY : ∀ (k:Nat) (y:ABlk),h[k]? = some y→k < h.length∧(Y ++ [cZ])[k]? = some y:=fun k y q=>⟨BV q,BN (FN yx (FN hx1 (FN hx q)))⟩
 rintro v H (⟨rfl,H',⟨t,l',ew,s',qw,k2⟩,rfl⟩ | ⟨rfl,hbad,H',kb,rfl⟩)
 ·have q6':(H'.set Y.length cZ ++ [cZ])[h.length+3]? = some (.live 1 [[.sl .nil 0 []]]):=BN (by rw [jR (by omega)]; exact k2.keep _ _ (BN q6) (by omega) (by omega))
  have q9':(H'.set Y.length cZ ++ [cZ])[H1.length]? = some (.live 1 [[.ptr bb 0 0]]):=BN (by rw [jR (by omega)]; exact k2.keep _ _ (BN q9) (by omega) (by omega))
  have qw':(H'.set Y.length cZ ++ [cZ])[H1.length+1]? = some (.live 1 [[iA t]]):=BN (by rw [jR (by omega)]; exact qw)
  have s':=(s'.set (c:=Y.length) (by omega) cZ).app cZ
  have hkH : ∀ (k:Nat) (y:ABlk),h[k]? = some y→(H'.set Y.length cZ ++ [cZ])[k]? = some y:=fun k y q=>by
   obtain ⟨a,b⟩:=hkY k y q
   exact BN (by rw [jR (by omega)]; exact k2.keep _ _ b (by omega) (by omega))
  have hlH:h.length < (H'.set Y.length cZ ++ [cZ]).length:=by have:=BV q6'; omega
  generalize H'.set Y.length cZ ++ [cZ]=Z at q6' q9' qw' s' hkH hlH ⊢
  obtain ⟨m',hbb⟩:=s'.b
  have ldd : ∀ {H:Hp},H[bb]? = some (.live 8 [.sl m' 3 (l'.map DJ) :: rest])→DF Tryz.prog H 35 (.ptr bb 0 0)=some (.agg [.sl m' 3 (l'.map DJ)]):=fun q=>by
   rw [GH AUW AM3 q (row := .sl m' 3 (l'.map DJ) :: rest) rfl (by simp)]; rfl
  have hld:=ldd hbb
  have zl:=BV q6'
  have zw:=BV qw'
  simp -implicitDefEqProofs only [BC,A8,BQ,BI,A7,D9,AZ,BB,AC,AQ,AO,BD,AX,AL,AA,AY,AU,BH,BG,BA,BX,AB,EU,↓reduceIte,jB,jC,enP,bne_self_eq_false]
  have lt3 : ∀ {H:Hp},H[H1.length+1]? = some (.live 1 [[iA t]])→DF Tryz.prog H 3 (.ptr (H1.length+1) 0 0)=some (iA t):=fun q=>by rw [DI ag3 q rfl]; rfl
  have st0:=LP q6' m' 3 (l'.map DJ)
  have qa:(Z.set (h.length+3) (ABlk.live 1 [[.sl m' 3 (l'.map DJ)]]))[H1.length+1]? = some (.live 1 [[iA t]]):=by rw [jR (by omega)]; exact qw'
  refine GI (.ones [0,1,2,3] (.alt 4 (.ones [5,6,7] .done) (.alt 5 (.ones [4,6,7] .done) (.non)))) (by kernel_rfl) ?_
  simp only [DN,JQ,jQ,jP]
  simp -implicitDefEqProofs only [FC,DT,CZ,H9,D8,DV,GN,EK,IX,D7,BK,A7,AC,AA,AY,AU,BH,BO,DC,BJ,AB,CJ,↓reduceIte,jA,jL,jI,jG,jB,enP,RJ,jJ,EE,F8,EY,ldB q9',hld,st0,lt3 qw',lt3 qa,GR,GU,and_true]
  refine ⟨?_,?_⟩
  all_goals
   rw [JJ _ _ _ _ _ _ _ _ _ _ _ (show _=AV.ptr (h.length+3) 0 0 by simp -implicitDefEqProofs only [AA,↓reduceIte,jA]),JA (DY q6')]
   simp -implicitDefEqProofs only [AA,↓reduceIte,jA]
   exact ⟨_,rfl,AF0 (fun k y q=>by rw [jR (by have:=BV q; omega)]; exact hkH k y q) (by rw [qE]; omega),.inr ⟨h0,l,S.r,S.s.v,.inr ⟨t,l',m',ew,rfl⟩⟩,.inr ⟨m',l',t,rfl⟩⟩
 ·have q6':((H' ++ [cE]).set Y.length cE)[h.length+3]? = some (.live 1 [[.sl .nil 0 []]]):=by
   rw [jR (by omega)]; exact BN (kb.keep _ _ (BN q6) (by omega))
  have hkH : ∀ (k:Nat) (y:ABlk),h[k]? = some y→((H' ++ [cE]).set Y.length cE)[k]? = some y:=fun k y q=>by
   obtain ⟨a,b⟩:=hkY k y q
   rw [jR (by omega)]; exact BN (kb.keep _ _ b (by omega))
  have hlH:h.length < ((H' ++ [cE]).set Y.length cE).length:=by have:=BV q6'; omega
  generalize (H' ++ [cE]).set Y.length cE=Z at q6' hkH hlH ⊢
  simp -implicitDefEqProofs only [FT,BC,A8,BK,BI,A7,CW,D6,AZ,BB,AC,AQ,AO,BD,AX,AL,DK,AA,AY,AU,BH,BG,BA,H8,DC,BX,AB,CJ,EU,↓reduceIte,jA,jB,jC,enP,jJ,show ((2:Int) != 0)=true from rfl,YW,LP q6']
  rw [JJ _ _ _ _ _ _ _ _ _ _ _ (show _=AV.ptr (h.length+3) 0 0 by simp -implicitDefEqProofs only [AA,↓reduceIte,jA]),JA (DY q6')]
  simp -implicitDefEqProofs only [AA,↓reduceIte,jA]
  refine ⟨_,rfl,AF0 (fun k y q=>by rw [jR (by have:=BV q; omega)]; exact hkH k y q) (by rw [qE]; omega),.inr ⟨h0,l,S.r,S.s.v,.inl ⟨hbad,rfl⟩⟩,.inl ⟨_,rfl⟩⟩
end
def sE (p:Pr) (e:Ex):Int:=if NJ p=0 then if exE e=0 then plE p.vars e else 1 else 1
theorem QV {l:Dg} (v:VD l) (p:Pr) (e:Ex):stE (l.map Nd.raw) p e=sE p e:=by unfold stE sE; rw [if_pos (AI9 v)]
def AAX (p:Pr):List Ex→Nat→Dg→Except Int (Nat × Dg)
 | [],t,l => .ok (t,l)
 | e :: es,t,l=>if sE p e≠0 then .error (sE p e) else match AFB p (KC p) e l with
   | none => .error 2
   | some (f,l1)=>match KN t f l1 with
     | none => .error 2
     | some (u,l2)=>AAX p es u l2
def AX8 (o:Except Int (Nat × Dg)) (v:AV):Prop:=match o with
 | .error k=>v = .tup [zD,.int .i64 0,.int .i64 k]
 | .ok (t,l) => ∃ m,v = .tup [dgA m l,iA t,.int .i64 0]
theorem NL : ∀ {a b:Dg},a.map Nd.raw=b.map Nd.raw→a=b
 | [],[],_=>rfl
 | [],_ :: _,h=>by cases h
 | _ :: _,[],h=>by cases h
 | x :: a,y :: b,h=>by
   simp only [jF,List.cons.injEq] at h
   rw [ALW h.1,NL h.2]
def dg0:Dg := [nF,nT]
theorem vd0:VD dg0:=by
 refine ⟨rfl,rfl,by decide,fun i n h hi => ?_,fun i j n h1 h2 => ?_⟩
 ·have:i < 2:=RF h
  omega
 ·have a:i < 2:=RF h1
  have b:j < 2:=RF h2
  rcases i with _ | _ | i <;> rcases j with _ | _ | j <;> first | rfl | omega | skip
  ·cases h1; cases h2
  ·cases h1; cases h2
section
variable (G:Nat→AV)
theorem AJN (h:Hp):PCall (En G) 23 [] h (dgA .full dg0):=AHS G h
set_option maxHeartbeats 8000000 in
theorem AR6 (hG:GOk G) (p:Pr) (hs:PrS p) (es:List Ex) (sm:SM) (hl:es.length≤1048576) (hw : ∀ e∈es,wt e≤1048576) (h:Hp):QCall (En G) 18 [.agg (DZ p),.sl sm 4 (es.map DR)] h (AX8 (AAX p es 1 dg0)):=by
 refine ACalls.pureQ 4 (R:=fun v H=>ext h H∧AX8 (AAX p es 1 dg0) v) ?_ ?H
 case H =>
  rintro v H ⟨hx,hq⟩
  refine ⟨hx,?_⟩
  unfold AX8 at hq ⊢
  cases ho:AAX p es 1 dg0 with
  | error k=>rw [ho] at hq; simp only at hq ⊢; rw [hq]; rfl
  | ok q =>
    rw [ho] at hq
    obtain ⟨m,hm⟩:=hq
    exact ⟨m,by rw [hm]; rfl⟩
 refine acN Tryz.func18 rfl ?_
 show awp _ _ _ _ _ (EH _ [.cell 4 35,.tmp 5,.tmp 6] _)
 generalize hO:AAX p es 1 dg0=O
 simp -implicitDefEqProofs only [BC,A8,A7,AZ,BB,AC,AQ,AO,BD,AX,AL,AY,AU,BZ,BH,BA,EF,FK,CB,BP,BR,BF,jE,jD,jB,jC,enP,TZ,OO]
 refine (AJN G _).use ?_
 unfold dgA
 generalize hX:h ++ [ABlk.live 5 [DZ p]] ++ [ABlk.live 1 [[.sl .nil 0 []]]]=X
 have hx:ext h X:=by rw [← hX]; exact ((ext.rfl' h).app _).app _
 have q2:X[h.length]? = some (.live 5 [DZ p]):=by rw [← hX]; exact BN (CV _ _)
 have q4:X[h.length+1]? = some (.live 1 [[.sl .nil 0 []]]):=by rw [← hX]; exact GK (by simp)
 have e1:(h ++ [ABlk.live 5 [DZ p]]).length=h.length+1:=by simp
 have e4:X.length=h.length+2:=by rw [← hX]; simp
 rw [e1]
 clear hX
 have st7:FB Tryz.prog (X ++ [ABlk.live 1 [[.sl .nil 0 []]]]) 35 (.ptr (h.length+2) 0 0) (.agg [.sl .full 3 (dg0.map DJ)])=some (X ++ [ABlk.live 1 [[.sl .full 3 (dg0.map DJ)]]]):=by
  rw [← e4,LP (CV X _),JI]
 simp -implicitDefEqProofs only [BC,CG,A8,A7,AZ,BB,AC,AQ,AO,BD,AX,AL,DK,AA,AY,AU,BH,BG,BA,EF,DC,EW,BR,AB,CJ,BF,BU,↓reduceIte,jA,jB,jC,enP,WE,jJ,OO,e4,st7,jM]
 have q2:(X ++ [ABlk.live 1 [[.sl .full 3 (dg0.map DJ)]]])[h.length]? = some (.live 5 [DZ p]):=BN q2
 have q4:(X ++ [ABlk.live 1 [[.sl .full 3 (dg0.map DJ)]]])[h.length+1]? = some (.live 1 [[.sl .nil 0 []]]):=BN q4
 have q7:(X ++ [ABlk.live 1 [[.sl .full 3 (dg0.map DJ)]]])[h.length+2]? = some (.live 1 [[.sl .full 3 (dg0.map DJ)]]):=GK e4
 have hx:ext h (X ++ [ABlk.live 1 [[.sl .full 3 (dg0.map DJ)]]]):=hx.app _
 generalize X ++ [ABlk.live 1 [[.sl .full 3 (dg0.map DJ)]]]=X at q2 q4 q7 hx ⊢
 clear e4
 refine G6 0 (fun F H => ∃ t l m,O = .ok (t,l)∧H[h.length+1]? = some (.live 1 [[.sl .nil 0 []]])∧H[h.length+2]? = some (.live 1 [[.sl m 3 (l.map DJ)]])∧ext h H∧F 4 = .ptr (h.length+1) 0 0∧F 7 = .ptr (h.length+2) 0 0∧F 8=iA t)
  (fun F H => ∃ k,O = .error k∧H[h.length+1]? = some (.live 1 [[.sl .nil 0 []]])∧ext h H∧F 4 = .ptr (h.length+1) 0 0∧F 5 = .int .i64 0∧F 6 = .int .i64 k) ?_ ?_ ?_
 ·refine D5 (fun n F H => ∃ i t l m,n+i=es.length∧AAX p (es.drop i) t l=O∧VD l∧t < l.length∧H[h.length]? = some (.live 5 [DZ p])∧H[h.length+1]? = some (.live 1 [[.sl .nil 0 []]])∧H[h.length+2]? = some (.live 1 [[.sl m 3 (l.map DJ)]])∧ext h H ∧
    F 2 = .ptr h.length 0 0∧F 4 = .ptr (h.length+1) 0 0∧F 7 = .ptr (h.length+2) 0 0∧F 8=iA t∧F 15 = .sl sm 4 (es.map DR)∧F 16 = .int .i64 (es.length:Nat)∧F 17 = .int .i64 (i:Nat)) es.length
   ⟨0,1,dg0,.full,rfl,hO,vd0,by decide,q2,q4,q7,hx,by simp -implicitDefEqProofs only [AA,↓reduceIte,jA],by simp -implicitDefEqProofs only [AA,↓reduceIte,jA],by simp -implicitDefEqProofs only [AA,↓reduceIte,jA],by simp -implicitDefEqProofs only [AA,↓reduceIte,jA]; rfl,by simp -implicitDefEqProofs only [AA,↓reduceIte,jA],by simp -implicitDefEqProofs only [AA,↓reduceIte,jA],by simp -implicitDefEqProofs only [AA,↓reduceIte]; rfl⟩ ?_
  clear q2 q4 q7 hx
  rintro n F H ⟨i,t,l,m,hn,hS,vl,ht,q2,q4,q7,hx,f2,f4,f7,f8,f15,f16,f17⟩
  have ec:decide (((i:Nat):Int) < (es.length:Nat))=decide (i < es.length):=by rw [decide_eq_decide]; omega
  have hl2:=BV q7
  simp -implicitDefEqProofs only [BC,A8,BI,A7,AZ,BB,AC,AQ,AO,BD,AX,AL,AA,AY,BX,AB,C9,↓reduceIte,jB,jC,enP,f16,f17,ec]
  refine CX (fun hc => ?_) (fun hc => ?_)
  ·have hi:i < es.length:=by simpa using hc
   have hwi:=hw _ (jX hi)
   rw [zT hi] at hS
   have mE:=FQ (P:=Tryz.prog) (k:=4) (h:=H) WS OZ G9 hi
   generalize es[i]=e at hS hwi mE
   have qe:=CV H (ABlk.live 4 [DR e])
   have q2:=BN (x:=ABlk.live 4 [DR e]) q2
   have q4:=BN (x:=ABlk.live 4 [DR e]) q4
   have q7:=BN (x:=ABlk.live 4 [DR e]) q7
   have hx:=hx.app [ABlk.live 4 [DR e]]
   simp -implicitDefEqProofs only [BC,CG,A8,BQ,A7,AZ,BB,AC,AQ,AO,BD,AX,AL,DK,AA,AY,EF,BO,DC,CO,BR,AB,CJ,↓reduceIte,jA,jB,jC,enP,AAQ,jJ,f15,f17,EQ hi,mE,AOH,APA _ _ _ (show List.length [AV.int .i64 0,AV.int .i64 0,AV.str ⟨#[]⟩,AV.sl .nil 0 []]=4 from rfl)]
   have hl3:h.length+2 < (H ++ [ABlk.live 4 [DR e]]).length:=by simp; omega
   have ldp:DF Tryz.prog (H ++ [ABlk.live 4 [DR e]]) 27 (.ptr h.length 0 0)=some (.agg (DZ p)):=by rw [GH VR UG q2 (row:=DZ p) rfl (by rw [JF]; exact jO 5)]; rfl
   simp -implicitDefEqProofs only [AZ,AC,AQ,AO,BD,AX,AL,AA,AY,BZ,BO,CB,BP,AB,jF,jE,jD,↓reduceIte,jA,jB,jC,enP,f2,f7,JA q7,ldp,IU qe]
   generalize H ++ [ABlk.live 4 [DR e]]=H1 at qe q2 q4 q7 hx hl3 ldp ⊢
   have hT:=AC9 G hG (l.map Nd.raw) m (by rw [jM]; have:=vl.mx; omega) p hs e hwi H1
   rw [PU] at hT
   refine hT.use ?_
   have hS:(if sE p e≠0 then Except.error (sE p e) else match AFB p (KC p) e l with
    | none => .error 2
    | some (f,l1)=>match KN t f l1 with
      | none => .error 2
      | some (u,l2)=>AAX p (es.drop (i+1)) u l2)=O:=hS
   have al:=OO H1
   have sx : ∀ (mm:SM) (kk:Nat) (xs:List (List AV)),FB Tryz.prog (H1 ++ [ABlk.live 1 [[.sl .nil 0 []]]]) 35 (.ptr H1.length 0 0) (.agg [.sl mm kk xs])=some (H1 ++ [ABlk.live 1 [[.sl mm kk xs]]]):=fun mm kk xs=>by rw [LP (CV H1 _),JI]
   rintro v (⟨hne,rfl⟩ | ⟨h0,l0,hl0,_,⟨hN,rfl⟩ | ⟨f,l1,m1,hF,rfl⟩⟩)
   ·rw [QV vl] at hne ⊢
    rw [if_pos hne] at hS
    have hb:(sE p e != 0)=true:=by simpa using hne
    unfold zD
    have q4:=BN (x:=ABlk.live 1 [[.sl .nil 0 []]]) q4
    simp -implicitDefEqProofs only [jP,jQ,FT,BC,A8,BK,BI,A7,CW,EN,NM,FV,D6,AZ,BB,AC,AQ,AO,BD,AX,AL,DK,AA,AY,AU,BH,BG,BA,EF,H8,DC,BX,EJ,FP,BR,AB,CJ,EU,↓reduceIte,jA,jB,jC,enP,jJ,al,sx,hb,f4,YW,LP q4]
    exact ⟨_,hS.symm,DY q4,(hx.app _).set (by omega) _,by trivial,by trivial,by trivial⟩
   ·obtain rfl:=NL hl0
    rw [QV vl] at h0
    rw [if_neg (by simpa using h0),hN] at hS
    unfold zD
    have q4:=BN (x:=ABlk.live 1 [[.sl .nil 0 []]]) q4
    simp -implicitDefEqProofs only [jP,jQ,FT,BC,A8,BK,BI,A7,CW,EN,NM,FV,D6,AZ,BB,AC,AQ,AO,BD,AX,AL,DK,AA,AY,AU,BH,BG,BA,EF,H8,DC,BX,EJ,FP,BR,AB,CJ,EU,↓reduceIte,jA,jB,jC,enP,jJ,al,sx,show ((2:Int) != 0)=true from rfl,f4,YW,LP q4]
    exact ⟨_,hS.symm,DY q4,(hx.app _).set (by omega) _,by trivial,by trivial,by trivial⟩
   ·obtain rfl:=NL hl0
    rw [QV vl] at h0
    rw [if_neg (by simpa using h0),hF] at hS
    have hS:(match KN t f l1 with
     | none=>Except.error 2
     | some (u,l2)=>AAX p (es.drop (i+1)) u l2)=O:=hS
    have hok:EOk p e∧NJ p=0:=by
     unfold sE at h0
     split at h0
     ·split at h0
      ·rename_i a b; exact ⟨EOk.of b h0,a⟩
      ·cases h0
     ·cases h0
    obtain ⟨v1,x1,_,r1,_⟩:=ALQ (lvs:=KC p) (PV.of hok.2).pok hok.1 vl f l1 hF
    have q2:=BN (x:=ABlk.live 1 [[.sl m1 3 (l1.map DJ)]]) q2
    have q4:=BN (x:=ABlk.live 1 [[.sl m1 3 (l1.map DJ)]]) q4
    have q7:=BN (x:=ABlk.live 1 [[.sl m1 3 (l1.map DJ)]]) q7
    have q11:=CV H1 (ABlk.live 1 [[.sl m1 3 (l1.map DJ)]])
    have hx:=hx.app [ABlk.live 1 [[.sl m1 3 (l1.map DJ)]]]
    have hl4:h.length+2 < (H1 ++ [ABlk.live 1 [[.sl m1 3 (l1.map DJ)]]]).length:=by simp; omega
    unfold dgA iA
    simp -implicitDefEqProofs only [jP,jQ,BC,A8,BQ,BI,A7,D9,AZ,BB,AC,AQ,AO,BD,AX,AL,DK,AA,AY,AU,BZ,BH,BG,BA,EF,BO,DC,BX,EJ,FP,CB,BP,BR,AB,CJ,EU,jF,jE,jD,↓reduceIte,jA,jB,jC,enP,jJ,al,sx,bne_self_eq_false,f8,JA q11]
    refine (AIZ G l1 m1 v1 t f (x1.lt ht) r1 _).use ?_
    generalize hM:H1 ++ [ABlk.live 1 [[.sl m1 3 (l1.map DJ)]]]=H2 at q2 q4 q7 q11 hx hl4 ⊢
    cases hA:KN t f l1 with
    | none =>
      rw [hA] at hS
      have e1:dgV none = .tup [.agg [.sl .nil 0 []],.int .i64 0,.int .i64 2]:=rfl
      rw [e1]
      have q4':(H2.set H1.length (.live 1 [[.sl .nil 0 []]]))[h.length+1]? = some (.live 1 [[.sl .nil 0 []]]):=by rw [jR (by omega)]; exact q4
      simp -implicitDefEqProofs only [jP,jQ,FT,BC,A8,BK,BI,A7,CW,EN,NM,FV,D6,AZ,BB,AC,AQ,AO,BD,AX,AL,DK,AA,AY,AU,BH,BG,BA,H8,DC,BX,EJ,FP,AB,CJ,EU,↓reduceIte,jA,jB,jC,enP,jJ,LP q11,show ((2:Int) != 0)=true from rfl,f4,YW,LP q4']
      exact ⟨_,hS.symm,DY q4',(hx.set (by omega) _).set (by omega) _,by trivial,by trivial,by trivial⟩
    | some q =>
      obtain ⟨u,l2⟩:=q
      rw [hA] at hS
      have e1:dgV (some (u,l2)) = .tup [.agg [.sl .any 3 (l2.map DJ)],.int .i64 (u:Nat),.int .i64 0]:=rfl
      rw [e1]
      obtain ⟨v2,x2,_,r2,_⟩:=PI v1 (x1.lt ht) r1 u l2 hA
      have qs : ∀ {c:Nat} {y:ABlk},H2[c]? = some y→c≠H1.length→(H2.set H1.length (.live 1 [[.sl .any 3 (l2.map DJ)]]))[c]? = some y:=fun q hne=>by rw [jR (Ne.symm hne)]; exact q
      have q7':=qs q7 (by omega)
      have q11':(H2.set H1.length (.live 1 [[.sl .any 3 (l2.map DJ)]]))[H1.length]? = some (.live 1 [[.sl .any 3 (l2.map DJ)]]):=DY q11
      simp -implicitDefEqProofs only [jP,jQ,BC,A8,BQ,BI,A7,ET,EX,D9,AZ,BB,AC,AQ,AO,BD,AX,AL,DK,AA,AY,AU,BH,BG,BA,BO,DC,BX,EJ,FP,AB,CJ,DX,EU,↓reduceIte,jA,jB,jC,enP,jJ,LP q11,bne_self_eq_false,f7,JA q11',LP q7',f17,wrap_succ (show i < 9223372036854775807 by omega)]
      exact ⟨n - 1,by omega,i+1,u,l2,.any,by omega,hS,v2,r2,by rw [jR (by omega)]; exact qs q2 (by omega),by rw [jR (by omega)]; exact qs q4 (by omega),DY q7',(hx.set (by omega) _).set (by omega) _,by trivial,by trivial,by trivial,by trivial,by trivial,by trivial,by trivial⟩
  ·have hc' : ¬ i < es.length:=fun q=>by rw [decide_eq_true q] at hc; cases hc
   rw [zI (by omega)] at hS
   simp -implicitDefEqProofs only [DW,EP,KE,FM,AA,↓reduceIte,jA]
   exact ⟨t,l,m,hS.symm,q4,q7,hx,f4,f7,f8⟩
 ·rintro F H ⟨t,l,m,ho,q4,q7,hx,f4,f7,f8⟩
  simp -implicitDefEqProofs only [BC,A8,BK,A7,FH,AZ,BB,AC,AQ,AO,BD,AX,AL,DK,AA,AY,AU,BH,BG,BA,BO,DC,AB,CJ,↓reduceIte,jA,jB,jC,enP,jJ,f4,f7,f8,JA q7,LP q4]
  rw [JJ _ _ _ _ _ _ _ _ _ _ _ (show _=AV.ptr (h.length+1) 0 0 by first | exact f4 | simp -implicitDefEqProofs only [f4]),JA (DY q4)]
  simp -implicitDefEqProofs only [AA,↓reduceIte,jA]
  exact ⟨_,rfl,hx.set (by omega) _,by rw [ho]; exact ⟨m,rfl⟩⟩
 ·rintro F H ⟨k,ho,q4,hx,f4,f5,f6⟩
  simp -implicitDefEqProofs only [CW,EN]
  rw [JJ _ _ _ _ _ _ _ _ _ _ _ (show _=AV.ptr (h.length+1) 0 0 by first | exact f4 | simp -implicitDefEqProofs only [f4]),JA q4]
  simp -implicitDefEqProofs only [f5,f6]
  exact ⟨_,rfl,hx,by rw [ho]; rfl⟩
end
def isS (v:AV) (xs:List Int):Prop := ∃ m k,v = .sl m k (xs.map qencI)∧(xs≠[]→k=1)
theorem isS.of (m:SM) (xs:List Int):isS (.sl m 1 (xs.map qencI)) xs:=⟨m,1,rfl,fun _=>rfl⟩
theorem isS.nil (m:SM) (k:Nat):isS (.sl m k []) []:=⟨m,k,rfl,fun q=>absurd rfl q⟩
def isD (v:AV) (R:List Rn):Prop := ∃ m k,v = .agg [.sl m k (R.map EG)]∧(R≠[]→k=3)
theorem isD.of (m:SM) (R:List Rn):isD (.agg [.sl m 3 (R.map EG)]) R:=⟨m,3,rfl,fun _=>rfl⟩
theorem isD.dg (m:SM) (l:Dg):isD (dgA m l) (l.map Nd.raw):=⟨m,3,by rw [PU]; rfl,fun _=>rfl⟩
theorem isD.nil:isD zD []:=⟨.nil,0,rfl,fun q=>absurd rfl q⟩
theorem AJO {xs:List Int} {i:Nat} (h:i < xs.length):xs≠[]:=fun e=>by rw [e] at h; simp at h
theorem AL2 {xs:List Rn} {i:Nat} (h:i < xs.length):xs≠[]:=fun e=>by rw [e] at h; simp at h
section
variable (G:Nat→AV)
theorem PQ {a b:AV} {xs ys:List Int} (ha:isS a xs) (hb:isS b ys) (hx:xs.length≤1048576) (_:ys.length≤1048576) (h:Hp):PCall (En G) 10 [a,b] h (.bool (decide (xs=ys))):=by
 obtain ⟨m,k,rfl,hk⟩:=ha
 obtain ⟨m',k',rfl,hk'⟩:=hb
 refine ACalls.pure0 rfl ?_
 refine acN Tryz.func10 rfl ?_
 show awp _ _ _ _ _ (EH _ [.tmp 4] _)
 simp -implicitDefEqProofs only [BC,A8,BI,A7,AZ,BB,AC,AQ,AO,BD,AX,AL,AA,AY,AU,BL,BG,BA,BX,EW,AB,EU,BF,BU,↓reduceIte,jA,jB,jC,enP,VN,jM]
 refine CX (fun hc => ?_) (fun hc => ?_)
 ·have hne:xs≠ys:=fun e=>by rw [e] at hc; simp at hc
  simp -implicitDefEqProofs only [BC,A8,BK,A7,CW,CU,AZ,BB,AC,AQ,AO,BD,AX,AL,AA,AU,BL,BA,↓reduceIte,jB,jC]
  exact ⟨by rw [decide_eq_false hne],[],by simp⟩
 have hlen:xs.length=ys.length:=by have:=hc; simp at this; omega
 simp -implicitDefEqProofs only [BC,CG,A8,BQ,A7,AZ,BB,AC,AQ,AO,BD,AX,AL,AU,BH,BA,jB,jC]
 refine D5 (fun n F H => ∃ i,n+i=xs.length∧decide (xs=ys)=decide (xs.drop i=ys.drop i)∧F 0 = .sl m k (xs.map qencI)∧F 1 = .sl m' k' (ys.map qencI)∧F 5 = .int .i64 (i:Nat)∧H=h) xs.length ⟨0,by simp,rfl,by simp -implicitDefEqProofs only [AA,BF,↓reduceIte,jA],by simp -implicitDefEqProofs only [AA,BF,BU,↓reduceIte,jA],by simp -implicitDefEqProofs only [AA,↓reduceIte]; rfl,rfl⟩ ?_
 rintro n F H ⟨i,hn,he,f0,f1,f5,rfl⟩
 have ec:decide (((i:Nat):Int) < (xs.length:Nat))=decide (i < xs.length):=by rw [decide_eq_decide]; omega
 simp -implicitDefEqProofs only [BC,A8,BI,A7,AZ,BB,AC,AQ,AO,BD,AX,AL,AA,AY,BG,BX,EW,AB,C9,↓reduceIte,jA,jB,jC,enP,VN,f0,f5,jM,ec]
 refine CX (fun hc => ?_) (fun hc => ?_)
 ·have hi:i < xs.length:=by simpa using hc
  have hi':i < ys.length:=by omega
  obtain rfl:=hk (AJO hi)
  obtain rfl:=hk' (AJO hi')
  rw [zT hi,zT hi'] at he
  have l1:DF Tryz.prog H 3 (.fptr 1 (xs.map qencI) i 0)=some (.int .i64 xs[i]):=by rw [FO ag3 hi]; rfl
  have l2:DF Tryz.prog H 3 (.fptr 1 (ys.map qencI) i 0)=some (.int .i64 ys[i]):=by rw [FO ag3 hi']; rfl
  simp -implicitDefEqProofs only [BC,CG,BQ,A7]
  refine GL (by kernel_rfl) ?_
  simp -implicitDefEqProofs only [FC,DT,CZ,D8,DV,ED,EK,IE,ES,BI,A7,AC,AA,AY,BO,BX,CO,AB,EU,↓reduceIte,jA,jL,jB,enP,WG,f0,f1,f5,EQ hi,EQ hi',l1,l2]
  refine CX (fun hd => ?_) (fun hd => ?_)
  ·have hne:xs[i]≠ys[i]:=by simpa using hd
   simp -implicitDefEqProofs only [BC,A8,BK,A7,CW,EN,FV,CU,AZ,BB,AC,AQ,AO,BD,AX,AL,AA,AU,BL,BA,↓reduceIte,jB,jC]
   exact ⟨by rw [he,decide_eq_false (fun q=>hne (List.cons.inj q).1)],[],by simp⟩
  ·have heq:xs[i]=ys[i]:=by simpa using hd
   simp -implicitDefEqProofs only [A8,BQ,A7,ET,EX,AZ,BB,AC,AQ,AO,BD,AX,AL,AA,AY,AU,BH,BG,BA,BX,AB,DX,↓reduceIte,jA,jB,jC,enP,f5,wrap_succ (show i < 9223372036854775807 by omega)]
   refine ⟨n - 1,by omega,i+1,by omega,?_,by trivial,by trivial,by trivial,by trivial⟩
   rw [he,heq,decide_eq_decide]
   exact ⟨fun q=>(List.cons.inj q).2,fun q=>by rw [q]⟩
 ·have hi : ¬ i < xs.length:=fun q=>by rw [decide_eq_true q] at hc; cases hc
  simp -implicitDefEqProofs only [BC,A8,BK,DW,A7,EP,FH,FM,CU,AZ,BB,AC,AQ,AO,BD,AX,AL,AA,AU,BL,BA,↓reduceIte,jB,jC]
  rw [zI (show xs.length≤i by omega),zI (show ys.length≤i by omega)] at he
  exact ⟨by rw [he]; rfl,[],by simp⟩
theorem APH {a b:AV} {xs ys:List Rn} (ha:isD a xs) (hb:isD b ys) (hx:xs.length≤1048576) (_:ys.length≤1048576) (h:Hp):PCall (En G) 17 [a,b] h (.bool (decide (xs=ys))):=by
 obtain ⟨m,k,rfl,hk⟩:=ha
 obtain ⟨m',k',rfl,hk'⟩:=hb
 refine ACalls.pure0 rfl ?_
 refine acN Tryz.func17 rfl ?_
 show awp _ _ _ _ _ (EH _ [.tmp 4] _)
 have bx : ∀ (H:Hp) (m:SM) (k:Nat) (r:List (List AV)),MK H (.agg [.sl m k r])=some (.ptr H.length 0 0,H ++ [.live 1 [[.sl m k r]]]):=fun _ _ _ _=>rfl
 simp -implicitDefEqProofs only [BC,A8,A7,AZ,BB,AC,AQ,AO,BD,AX,AL,AA,AY,AU,BL,BA,FK,BO,BJ,BR,AB,BF,BU,↓reduceIte,jA,jI,jB,jC,enP,KG,bx]
 have e1:(h ++ [ABlk.live 1 [[AV.sl m k (xs.map EG)]]]).length=h.length+1:=by simp
 rw [e1]
 generalize hX:h ++ [ABlk.live 1 [[AV.sl m k (xs.map EG)]]] ++ [ABlk.live 1 [[AV.sl m' k' (ys.map EG)]]]=X
 have hx0:ext h X:=by rw [← hX]; exact ((ext.rfl' h).app _).app _
 have q2:X[h.length]? = some (.live 1 [[.sl m k (xs.map EG)]]):=by rw [← hX]; exact BN (CV _ _)
 have q3:X[h.length+1]? = some (.live 1 [[.sl m' k' (ys.map EG)]]):=by rw [← hX]; exact GK e1
 clear hX
 have g2:DF Tryz.prog X 33 (.ptr h.length 0 0)=some (.sl m k (xs.map EG)):=by rw [DI AGJ q2 rfl]; rfl
 have g3:DF Tryz.prog X 33 (.ptr (h.length+1) 0 0)=some (.sl m' k' (ys.map EG)):=by rw [DI AGJ q3 rfl]; rfl
 simp -implicitDefEqProofs only [BI,A7,AZ,BB,AC,AQ,AO,BD,AX,AL,AA,AY,BO,BX,BJ,EW,AB,EU,↓reduceIte,jA,jI,jB,jC,enP,QR,KG,g2,g3,jM]
 refine CX (fun hc => ?_) (fun hc => ?_)
 ·have hne:xs≠ys:=fun e=>by rw [e] at hc; simp at hc
  simp -implicitDefEqProofs only [BC,A8,BK,A7,CW,CU,AZ,BB,AC,AQ,AO,BD,AX,AL,AA,AU,BL,BA,↓reduceIte,jB,jC]
  exact ⟨by rw [decide_eq_false hne],hx0⟩
 have hlen:xs.length=ys.length:=by have:=hc; simp at this; omega
 simp -implicitDefEqProofs only [BC,CG,A8,BQ,A7,AZ,BB,AC,AQ,AO,BD,AX,AL,AU,BH,BA,jB,jC]
 refine D5 (fun n F H => ∃ i,n+i=xs.length∧decide (xs=ys)=decide (xs.drop i=ys.drop i)∧F 2 = .ptr h.length 0 0∧F 3 = .ptr (h.length+1) 0 0∧F 5 = .int .i64 (i:Nat)∧H=X) xs.length ⟨0,by simp,rfl,by simp -implicitDefEqProofs only [AA,↓reduceIte,jA],by simp -implicitDefEqProofs only [AA,↓reduceIte,jA],by simp -implicitDefEqProofs only [AA,↓reduceIte]; rfl,rfl⟩ ?_
 rintro n F H ⟨i,hn,he,f2,f3,f5,rfl⟩
 have ec:decide (((i:Nat):Int) < (xs.length:Nat))=decide (i < xs.length):=by rw [decide_eq_decide]; omega
 simp -implicitDefEqProofs only [BC,A8,BI,A7,AZ,BB,AC,AQ,AO,BD,AX,AL,AA,AY,BG,BO,BX,BJ,EW,AB,C9,↓reduceIte,jA,jI,jB,jC,enP,QR,KG,f2,f5,g2,jM,ec]
 refine CX (fun hc => ?_) (fun hc => ?_)
 ·have hi:i < xs.length:=by simpa using hc
  have hi':i < ys.length:=by omega
  obtain rfl:=hk (AL2 hi)
  obtain rfl:=hk' (AL2 hi')
  rw [zT hi,zT hi'] at he
  simp -implicitDefEqProofs only [BC,CG,BQ,A7]
  refine GL (by kernel_rfl) ?_
  simp -implicitDefEqProofs only [FC,DT,CZ,D8,DV,ED,EK,IE,D7,ES,BI,A7,AC,AA,AY,BO,BX,BJ,CO,AB,↓reduceIte,jA,jL,jI,jB,enP,TY,KG,f2,f3,f5,g2,g3,EQ hi,EQ hi',FQ TN N9 JW hi,FQ TN N9 JW hi',AP0]
  refine CX (fun hd => ?_) (fun hd => ?_)
  ·have hne:xs[i]≠ys[i]:=by simpa using hd
   simp -implicitDefEqProofs only [BC,A8,BK,A7,CW,EN,FV,CU,AZ,BB,AC,AQ,AO,BD,AX,AL,AA,AU,BL,BA,↓reduceIte,jB,jC]
   exact ⟨by rw [he,decide_eq_false (fun q=>hne (List.cons.inj q).1)],hx0⟩
  ·have heq:xs[i]=ys[i]:=by simpa using hd
   simp -implicitDefEqProofs only [A8,BQ,A7,ET,EX,AZ,BB,AC,AQ,AO,BD,AX,AL,AA,AY,AU,BH,BG,BA,BX,AB,DX,↓reduceIte,jA,jB,jC,enP,f5,wrap_succ (show i < 9223372036854775807 by omega)]
   refine ⟨n - 1,by omega,i+1,by omega,?_,by trivial,by trivial,by trivial,by trivial⟩
   rw [he,heq,decide_eq_decide]
   exact ⟨fun q=>(List.cons.inj q).2,fun q=>by rw [q]⟩
 ·have hi : ¬ i < xs.length:=fun q=>by rw [decide_eq_true q] at hc; cases hc
  simp -implicitDefEqProofs only [BC,A8,BK,DW,A7,EP,FH,FM,CU,AZ,BB,AC,AQ,AO,BD,AX,AL,AA,AU,BL,BA,↓reduceIte,jB,jC]
  rw [zI (show xs.length≤i by omega),zI (show ys.length≤i by omega)] at he
  exact ⟨by rw [he]; rfl,hx0⟩
theorem AG9 (e:Ex) (hw:wt e≤1048576) (h:Hp):PCall (En G) 31 [.agg (DR e)] h (.int .i64 (pre e).length):=by
 refine ACalls.pure0 rfl ?_
 refine acN Tryz.func31 rfl ?_
 show awp _ _ _ _ _ (EH _ [.tmp 2] _)
 simp -implicitDefEqProofs only [BC,A8,A7,AZ,BB,AC,AQ,AO,BD,AX,AL,AA,AY,AU,BZ,BH,BA,FK,BO,CB,BP,BR,AB,BF,jF,jE,jD,↓reduceIte,jA,jB,jC,enP,bxE,ldE]
 refine (AHN G e (ARY hw) _).mono ?_
 rintro v h' ⟨c,m,u1,u2,rfl,s,x,rfl⟩
 simp -implicitDefEqProofs only [BK,A7,CU,AZ,BB,AC,AQ,AO,BD,AX,AL,AA,AY,BA,BO,BJ,AB,↓reduceIte,jI,jB,jC,enP,AJ9,EE,EY,s.l0]
 exact ⟨trivial,_,by rw [zH]⟩
end
def AEM (b:Bool):List AV := [.bool b]
def bA (bs:List Bool):Nat→Bool:=fun i=>bs.getD i false
theorem AVV (h:Hp):JO Tryz.prog h 61=some (.ptr h.length 0 0,h ++ [ABlk.live 3 [i3 0 0 0]]):=JE (row:=i3 0 0 0) (by kernel_rfl)
theorem AYV (h:Hp) (n:Nd):FB Tryz.prog (h ++ [ABlk.live 3 [i3 0 0 0]]) 61 (.ptr h.length 0 0) (.agg (DJ n))=some (h ++ [ABlk.live 3 [DJ n]]):=by
 rw [XG (cs:=DJ n) (QN rfl) N9 (CV _ _) (jO 3),LD]; rfl
theorem A0Y (h:Hp) (v:Int):ER Tryz.prog false h 29 1 [(0,.int .i64 v)]=some (.sl .full 1 [[.int .i64 v]],h):=by kernel_rfl
section
variable (G:Nat→AV)
theorem YR (l:Dg) (m:SM) (v:VD l) (f:Nat) (hf:f < l.length) (bs:List Bool) (m':SM) (h:Hp):PCall (En G) 35 [dgA m l,.int .i64 (f:Nat),.sl m' 1 (bs.map AEM)] h (.bool (ev l (bA bs) f)):=by
 refine ACalls.pure0 rfl ?_
 refine acN Tryz.func35 rfl ?_
 show awp _ _ _ _ _ (EH _ [.tmp 6] _)
 unfold dgA
 have q3:=CV h (ABlk.live 1 [[.sl m 3 (l.map DJ)]])
 have hx:=(ext.rfl' h).app [ABlk.live 1 [[.sl m 3 (l.map DJ)]]]
 simp -implicitDefEqProofs only [FT,FX,BC,A8,A7,AZ,BB,AC,AQ,AO,BD,AX,AL,AA,AY,AU,BZ,BL,BG,BA,FK,FU,BO,CB,BP,BR,AB,BF,BU,jF,jE,jD,↓reduceIte,jA,jB,jC,enP,UA,JA q3,A0Y]
 generalize h ++ [ABlk.live 1 [[.sl m 3 (l.map DJ)]]]=X at q3 hx ⊢
 have hd:=AJ1 G l m v [f] .full (fun g hg=>by rw [qX] at hg; rw [hg]; exact hf) (by simp) X
 refine (show PCall (En G) 67 [.agg [.sl m 3 (l.map DJ)],.sl .full 1 [[.int .i64 (f:Nat)]]] X (.bool true) from hd).use ?_
 simp -implicitDefEqProofs only [BC,CG,BQ,BI,A7,D9,AZ,BB,AC,AQ,AO,BD,AX,AL,AA,AY,IQ,AB,FI,↓reduceIte,jB,jV,jC]
 refine G6 0 (fun F H=>ext h H∧∃ g:Nat,g≤1∧ev l (bA bs) f=(g == 1)∧F 1 = .int .i64 (g:Nat)) (fun _ _=>False) ?_ ?_ (fun _ _ q=>q.elim)
 ·refine D5 (fun n F H => ∃ g,g≤n∧g < l.length∧ev l (bA bs) f=ev l (bA bs) g∧H[h.length]? = some (.live 1 [[.sl m 3 (l.map DJ)]])∧ext h H∧F 1 = .int .i64 (g:Nat)∧F 2 = .sl m' 1 (bs.map AEM)∧F 3 = .ptr h.length 0 0) f
   ⟨f,jO _,hf,rfl,q3,hx,by simp -implicitDefEqProofs only [AA,BF,BU,↓reduceIte,jA],by simp -implicitDefEqProofs only [AA,BF,BU,↓reduceIte,jA],by simp -implicitDefEqProofs only [AA,↓reduceIte,jA]⟩ ?_
  clear q3 hx
  rintro n F H ⟨g,hg,hgl,he,q3,hx,f1,f2,f3⟩
  have ec:decide (((g:Nat):Int) > 1)=decide (1 < g):=by rw [decide_eq_decide]; omega
  simp -implicitDefEqProofs only [BC,A8,BI,A7,AZ,BB,AC,AQ,AO,BD,AX,AL,AA,AY,AU,BH,BG,BX,AB,F6,↓reduceIte,jB,jC,enP,f1,ec]
  refine CX (fun hc => ?_) (fun hc => ?_)
  ·have h1:1 < g:=by simpa using hc
   obtain ⟨a1,a2,a3,_⟩:=v.at (by omega) hgl
   have es:=OV v (bA bs) (show 2≤g by omega) hgl
   have lN:DF Tryz.prog H 61 (.fptr 3 (l.map DJ) g 0)=some (.agg (DJ (nth l g))):=by
    have:=FQ (P:=Tryz.prog) (k:=3) (h:=H) TN N9 VF hgl
    rw [this,WB (jS hgl)]
   generalize nth l g=nd at a1 a2 a3 es lN
   have l33:DF Tryz.prog H 33 (.ptr h.length 0 0)=some (.sl m 3 (l.map DJ)):=by rw [DI AGJ q3 rfl]; rfl
   simp -implicitDefEqProofs only [BC,CG,A8,BQ,A7,AZ,BB,AC,AQ,AO,BD,AX,AL,DK,AA,AY,BG,EF,BO,DC,BJ,CO,BR,AB,CJ,↓reduceIte,jA,jI,jG,jB,jC,enP,TY,KG,RP,jJ,f1,f3,l33,EQ hgl,lN,AVV,AYV]
   have qn:=CV H (ABlk.live 3 [DJ nd])
   have q3:=BN (x:=ABlk.live 3 [DJ nd]) q3
   have hx:=hx.app [ABlk.live 3 [DJ nd]]
   generalize H ++ [ABlk.live 3 [DJ nd]]=H1 at qn q3 hx ⊢
   have c0:DF Tryz.prog H1 3 (.ptr H.length 0 0)=some (.int .i64 (nd.lv:Nat)):=by rw [DI ag3 qn rfl]; rfl
   have c1:DF Tryz.prog H1 3 (.ptr H.length 0 1)=some (.int .i64 (nd.lo:Nat)):=by rw [DI ag3 qn rfl]; rfl
   have c2:DF Tryz.prog H1 3 (.ptr H.length 0 2)=some (.int .i64 (nd.hi:Nat)):=by rw [DI ag3 qn rfl]; rfl
   have ec2:decide (((nd.lv:Nat):Int) < (bs.length:Nat))=decide (nd.lv < bs.length):=by rw [decide_eq_decide]; omega
   simp -implicitDefEqProofs only [BC,A8,A7,AZ,BB,BM,CE,CQ,AC,AQ,AO,BD,AX,AL,AA,AY,BG,BA,BO,BX,BJ,EW,AB,C9,↓reduceIte,jA,jI,jB,jC,enP,A2P,PG,c0,c1,f2,jM,ec2]
   refine J3 (fun hb => ?_) (fun hb => ?_)
   ·have hlb:nd.lv < bs.length:=by simpa using hb
    have lb:DF Tryz.prog H1 4 (.fptr 1 (bs.map AEM) nd.lv 0)=some (.bool bs[nd.lv]):=by rw [FO ag4 hlb]; rfl
    have eb:bA bs nd.lv=bs[nd.lv]:=by unfold bA; rw [zK,jS hlb]; rfl
    simp -implicitDefEqProofs only [BI,A7,AZ,BB,BM,CE,CQ,FY,AC,AQ,AO,BD,AX,AL,AA,AY,AU,BL,BG,CS,DL,BO,BJ,CO,AB,↓reduceIte,jA,jI,jB,jC,enP,ATQ,PG,hb,c0,f2,EQ hlb,lb]
    refine CX (fun hd => ?_) (fun hd => ?_)
    ·simp -implicitDefEqProofs only [A8,ET,EX,AZ,BB,AC,AQ,AO,BD,AX,AL,AA,AY,BA,BO,BJ,AB,↓reduceIte,jA,jG,jB,jC,enP,RN,c2]
     exact ⟨n - 1,by omega,nd.hi,by omega,by omega,by rw [he,es,if_pos (by rw [eb]; exact hd)],q3,hx,by trivial,by trivial,by trivial⟩
    ·simp -implicitDefEqProofs only [BQ,ET,EX,AA,↓reduceIte,jA]
     exact ⟨n - 1,by omega,nd.lo,by omega,by omega,by rw [he,es,if_neg (by rw [eb,hd]; decide)],q3,hx,by trivial,by trivial,by trivial⟩
   ·have hlb : ¬ nd.lv < bs.length:=fun q=>by rw [decide_eq_true q] at hb; cases hb
    have eb:bA bs nd.lv=false:=by unfold bA; rw [zK,zG (by omega)]; rfl
    simp -implicitDefEqProofs only [BQ,BI,A7,ET,EX,D9,AZ,BB,BM,CE,CQ,I7,AC,AQ,AO,BD,AX,AL,AA,EO,AY,AU,BL,CS,DU,↓reduceIte,jA,jB,jC,hb]
    exact ⟨n - 1,by omega,nd.lo,by omega,by omega,by rw [he,es,if_neg (by rw [eb]; decide)],q3,hx,by trivial,by trivial,by trivial⟩
  ·have h1 : ¬ 1 < g:=fun q=>by rw [decide_eq_true q] at hc; cases hc
   simp -implicitDefEqProofs only [DW,EP,KE,FM,AA,↓reduceIte,jA]
   exact ⟨hx,g,by omega,by rw [he,RQ _ _ (by omega)],f1⟩
 ·rintro F H ⟨hx,g,hg,he,f1⟩
  simp -implicitDefEqProofs only [BC,A8,BK,A7,FH,CU,AZ,BB,AC,AQ,AO,BD,AX,AL,AA,AY,AU,BH,BG,BA,BX,AB,EC,↓reduceIte,jB,jC,enP,f1]
  refine ⟨?_,hx⟩
  rw [he]
  have:g=0∨g=1:=by omega
  rcases this with rfl | rfl <;> rfl
end
theorem APQ {h H:Hp} {ys:List Int} {v:AV} {n d:Nat} (ho:outG 1 qencI h ys v H) (hn:n≤h.length):isS (JR n H (d+2) v) ys:=by
 rcases ho with ⟨rfl,rfl⟩ | ⟨_,o,ho1,rfl,ho⟩
 ·exact isS.nil .nil 0
 ·rw [VA AT2 (by omega) ho]; exact isS.of .any ys
section
variable (G:Nat→AV)
def A3Q (p:Pr) (v:AV):Prop := ∃ xs,isS v xs∧xs.length≤p.vars.length∧∀ x∈xs,0≤x∧x < p.vars.length
set_option maxHeartbeats 1000000 in
theorem AJI (p:Pr) (hs:PrS p) (h:Hp):QCall (En G) 68 [.agg (DZ p)] h (A3Q p):=by
 have hvl:=hs.vars
 refine ACalls.pureQ 2 (R:=fun v H=>ext h H∧∃ xs,outG 1 qencI h xs v H∧xs.length≤p.vars.length∧∀ x∈xs,0≤x∧x < p.vars.length) ?_ (fun v H ⟨hx,xs,ho,h1,h2⟩=>⟨hx,xs,APQ (d:=0) ho (jO _),h1,h2⟩)
 refine acN Tryz.func68 rfl ?_
 show awp _ _ _ _ _ (EH _ [.tmp 2] _)
 have ge:=CV h (ABlk.live 5 [DZ p])
 have hx:ext h (h ++ [ABlk.live 5 [DZ p]]):=(ext.rfl' h).app _
 simp -implicitDefEqProofs only [BC,A8,A7,AZ,BB,AC,AQ,AO,BD,AX,AL,AA,AY,AU,L8,BA,FK,BO,BR,BF,↓reduceIte,jA,jB,jC,enP,TZ]
 generalize h ++ [ABlk.live 5 [DZ p]]=H0 at ge hx ⊢
 generalize hpb:h.length=pb at ge ⊢
 have l22 : ∀ {H:Hp},Sm.ext H0 H→DF Tryz.prog H 22 (.ptr pb 0 0)=some (.sl p.vm 4 (p.vars.map E5)):=fun q=>by rw [DI UD (FN q ge) (row:=DZ p) rfl]; rfl
 have ldp:DF Tryz.prog H0 27 (.ptr pb 0 0)=some (.agg (DZ p)):=by rw [GH VR UG ge (row:=DZ p) rfl (by rw [JF]; exact jO 5)]; rfl
 simp -implicitDefEqProofs only [AZ,AC,AQ,AO,BD,AX,AL,AA,AY,BZ,CB,BP,AB,jF,jE,jD,↓reduceIte,jB,jC,ldp]
 refine (ADZ G p hs H0).use ?_
 simp -implicitDefEqProofs only [BI,A7,AZ,BB,AC,AQ,AO,BD,AX,AL,AA,AY,AU,BH,BX,AB,EU,↓reduceIte,jB,jC,enP]
 refine CX (fun hc => ?_) (fun hc => ?_)
 ·simp -implicitDefEqProofs only [BC,A8,BK,A7,CW,CU,AZ,BB,AC,AQ,AO,BD,AX,AL,AA,AU,L8,BA,↓reduceIte,jB,jC]
  exact ⟨hx,[],.inl ⟨by trivial,rfl⟩,by simp,by simp⟩
 simp -implicitDefEqProofs only [BC,CG,A8,BQ,A7,AZ,BB,AC,AQ,AO,BD,AX,AL,AU,BH,L8,BA,jB,jC]
 refine D5 (fun n F H => ∃ i u xs,n+i=p.vars.length∧F 1 = .ptr pb 0 0∧F 3=u∧F 4 = .int .i64 (i:Nat)∧ext H0 H∧outG 1 qencI H0 xs u H∧xs.length≤i∧∀ x∈xs,0≤x∧x < p.vars.length) p.vars.length
  ⟨0,.sl .nil 0 [],[],by simp,by simp -implicitDefEqProofs only [AA,↓reduceIte,jA],by simp -implicitDefEqProofs only [AA,↓reduceIte,jA],by simp -implicitDefEqProofs only [AA,↓reduceIte]; rfl,ext.rfl' _,outG.nil _ _ _ _,by simp,by simp⟩ ?_
 rintro n F H ⟨i,u,xs,hi,f1,f3,f4,hxH,ho,hle,hin⟩
 have ec:decide (((i:Nat):Int) < (p.vars.length:Nat))=decide (i < p.vars.length):=by rw [decide_eq_decide]; omega
 simp -implicitDefEqProofs only [BC,A8,BI,A7,AZ,BB,AC,AQ,AO,BD,AX,AL,AA,AY,BG,BO,BX,BJ,EW,AB,C9,↓reduceIte,jA,jI,jB,jC,enP,RG,KH,f1,f4,l22 hxH,jM,ec]
 refine CX (fun hc => ?_) (fun hc => ?_)
 ·have hi':i < p.vars.length:=by simpa using hc
  have lm:DF Tryz.prog H 3 (.fptr 4 (p.vars.map E5) i 2)=some (.int .i64 p.vars[i].mode):=by rw [FO ag3 hi']; rfl
  simp -implicitDefEqProofs only [BC,CG,A8,BQ,BI,A7,AZ,BB,AC,AQ,AO,BD,AX,AL,AA,AY,AU,BH,BG,BO,BX,BJ,CO,AB,EU,↓reduceIte,jA,jI,jG,jB,jC,enP,RH,KH,MM,f1,f4,l22 hxH,EQ hi',lm]
  refine CX (fun hd => ?_) (fun hd => ?_)
  ·obtain ⟨v',H',ha,ho',_,hx',_,_⟩:=ho.append (P:=Tryz.prog) AYN (by kernel_rfl) A1V A0L (by omega) (by omega) hxH ((i:Nat):Int)
   have ha':IZ Tryz.prog true H 29 29 u (.sl .full 1 [[.int .i64 ((i:Nat):Int)]])=some (v',H'):=ha
   simp -implicitDefEqProofs only [FT,FX,A8,A7,ET,EX,AZ,BB,AC,AQ,AO,BD,AX,AL,AA,AY,AU,BH,BG,BA,FU,BX,P7,BR,AB,DX,↓reduceIte,jA,jB,jC,enP,f3,f4,A0Y,ha',wrap_succ (show i < 9223372036854775807 by omega)]
   refine ⟨n - 1,by omega,i+1,v',xs ++ [((i:Nat):Int)],by omega,by trivial,by trivial,by trivial,hx',ho',by simp; omega,fun x hx => ?_⟩
   rcases List.mem_append.1 hx with q | q
   ·exact hin x q
   ·rw [qX] at q; omega
  ·simp -implicitDefEqProofs only [A8,BQ,A7,ET,EX,AZ,BB,AC,AQ,AO,BD,AX,AL,AA,AY,AU,BH,BG,BA,BX,AB,DX,↓reduceIte,jA,jB,jC,enP,f4,wrap_succ (show i < 9223372036854775807 by omega)]
   exact ⟨n - 1,by omega,i+1,u,xs,by omega,by trivial,by trivial,by trivial,hxH,ho,by omega,hin⟩
 ·have hi' : ¬ i < p.vars.length:=fun q=>by rw [decide_eq_true q] at hc; cases hc
  simp -implicitDefEqProofs only [BC,A8,BK,DW,A7,EP,FH,FM,CU,AZ,BB,AC,AQ,AO,BD,AX,AL,AA,AY,BG,BA,↓reduceIte,jA,jB,jC,f3]
  refine ⟨hx.trans hxH,xs,?_,by omega,hin⟩
  rcases ho with ⟨a,b⟩ | ⟨a,o,b,c,d⟩
  ·exact .inl ⟨a,b⟩
  ·exact .inr ⟨a,o,Nat.le_trans hx.le b,c,d⟩
theorem AKR (p:Pr) (hs:PrS p) (h:Hp):QCall (En G) 36 [.agg (DZ p)] h (fun v => ∃ z:Int,v = .int .i64 z):=by
 refine ACalls.pureQ 1 (R:=fun v H=>ext h H∧∃ z:Int,v = .int .i64 z) ?_ (fun v H ⟨hx,z,e⟩=>⟨hx,z,by rw [e]; rfl⟩)
 refine acN Tryz.func36 rfl ?_
 show awp _ _ _ _ _ (EH _ [.tmp 2] _)
 have ge:=CV h (ABlk.live 5 [DZ p])
 have hx:ext h (h ++ [ABlk.live 5 [DZ p]]):=(ext.rfl' h).app _
 simp -implicitDefEqProofs only [BC,A8,A7,AZ,BB,AC,AQ,AO,BD,AX,AL,AA,AY,AU,BH,BA,FK,BO,BR,BF,↓reduceIte,jA,jB,jC,enP,TZ]
 generalize h ++ [ABlk.live 5 [DZ p]]=H0 at ge hx ⊢
 generalize hpb:h.length=pb at ge ⊢
 have l22:DF Tryz.prog H0 22 (.ptr pb 0 0)=some (.sl p.vm 4 (p.vars.map E5)):=by rw [DI UD ge (row:=DZ p) rfl]; rfl
 have ldp:DF Tryz.prog H0 27 (.ptr pb 0 0)=some (.agg (DZ p)):=by rw [GH VR UG ge (row:=DZ p) rfl (by rw [JF]; exact jO 5)]; rfl
 simp -implicitDefEqProofs only [AZ,AC,AQ,AO,BD,AX,AL,AA,AY,BZ,CB,BP,AB,jF,jE,jD,↓reduceIte,jB,jC,ldp]
 refine (AJI G p hs H0).use ?_
 rintro r ⟨xs,⟨m,k,rfl,hk⟩,hl,hin⟩
 have hvl:=hs.vars
 simp -implicitDefEqProofs only [BC,CG,A8,A7,AZ,BB,AC,AQ,AO,BD,AX,AL,AA,AY,AU,BH,BA,↓reduceIte,jB,jC]
 refine D5 (fun n F H => ∃ i,∃ z:Int,n+i=xs.length∧F 1 = .ptr pb 0 0∧F 3 = .sl m k (xs.map qencI)∧F 4 = .int .i64 z∧F 5 = .int .i64 (i:Nat)∧H=H0) xs.length ⟨0,0,by simp,by simp -implicitDefEqProofs only [AA,↓reduceIte,jA],by simp -implicitDefEqProofs only [AA,↓reduceIte,jA],by simp -implicitDefEqProofs only [AA,↓reduceIte,jA],by simp -implicitDefEqProofs only [AA,↓reduceIte]; rfl,rfl⟩ ?_
 rintro n F H ⟨i,z,hi,f1,f3,f4,f5,rfl⟩
 have ec:decide (((i:Nat):Int) < (xs.length:Nat))=decide (i < xs.length):=by rw [decide_eq_decide]; omega
 simp -implicitDefEqProofs only [BC,A8,BI,A7,AZ,BB,AC,AQ,AO,BD,AX,AL,AA,AY,BG,BX,EW,AB,C9,↓reduceIte,jA,jB,jC,enP,VN,f3,f5,jM,ec]
 refine CX (fun hc => ?_) (fun hc => ?_)
 ·have hi':i < xs.length:=by simpa using hc
  obtain rfl:=hk (AJO hi')
  obtain ⟨a,b⟩:=hin _ (jX hi')
  obtain ⟨j,hj⟩:=qW a
  have hj':j < p.vars.length:=by omega
  have l3:DF Tryz.prog H 3 (.fptr 1 (xs.map qencI) i 0)=some (.int .i64 (j:Nat)):=by rw [FO ag3 hi',hj]; rfl
  have lw:DF Tryz.prog H 3 (.fptr 4 (p.vars.map E5) j 1)=some (.int .i64 p.vars[j].width):=by rw [FO ag3 hj']; rfl
  simp -implicitDefEqProofs only [BC,CG,BQ,A7]
  refine GL (by kernel_rfl) ?_
  simp -implicitDefEqProofs only [FC,DT,CZ,D8,DV,ED,GN,EK,IE,D7,ES,A8,A7,ET,EX,AZ,BB,AC,AQ,AO,BD,AX,AL,AA,AY,AU,BH,BG,BA,BO,BX,BJ,CO,AB,DX,↓reduceIte,jA,jL,jI,jG,jB,jC,enP,RH,KH,WG,KZ,f1,f3,f4,f5,l22,EQ hi',l3,EQ hj',lw,wrap_succ (show i < 9223372036854775807 by omega)]
  exact ⟨n - 1,by omega,i+1,_,by omega,by trivial,by trivial,by trivial,by trivial,by trivial⟩
 ·simp -implicitDefEqProofs only [BC,A8,BK,DW,A7,EP,FH,FM,CU,AZ,BB,AC,AQ,AO,BD,AX,AL,AA,AY,BG,BA,↓reduceIte,jA,jB,jC,f4]
  exact ⟨hx,z,rfl⟩
theorem AD7 (p:Pr) (hs:PrS p) (e:Ex) (hw:wt e≤1048576) {d:AV} {R:List Rn} (hd:isD d R) (h:Hp):QCall (En G) 14 [.agg (DZ p),.agg (DR e),d] h (fun v => ∃ b,v = .bool b):=by
 obtain ⟨m,k,rfl,hk⟩:=hd
 refine ACalls.pureQ 1 (R:=fun v H=>ext h H∧∃ b,v = .bool b) ?_ (fun v H ⟨hx,z,e⟩=>⟨hx,z,by rw [e]; rfl⟩)
 refine acN Tryz.func14 rfl ?_
 show awp _ _ _ _ _ (EH _ [.tmp 6] _)
 have bx : ∀ (H:Hp) (m:SM) (k:Nat) (r:List (List AV)),MK H (.agg [.sl m k r])=some (.ptr H.length 0 0,H ++ [.live 1 [[.sl m k r]]]):=fun _ _ _ _=>rfl
 simp -implicitDefEqProofs only [BC,A8,A7,AZ,BB,AC,AQ,AO,BD,AX,AL,AA,AY,AU,BL,BA,FK,BO,BR,BF,BU,↓reduceIte,jA,jB,jC,enP,TZ,bxE,bx]
 generalize hX:h ++ [ABlk.live 5 [DZ p]] ++ [ABlk.live 4 [DR e]] ++ [ABlk.live 1 [[AV.sl m k (R.map EG)]]]=X
 have hx:ext h X:=by rw [← hX]; exact (((ext.rfl' h).app _).app _).app _
 have q3:X[h.length]? = some (.live 5 [DZ p]):=by rw [← hX]; exact BN (BN (CV _ _))
 have q4:X[h.length+1]? = some (.live 4 [DR e]):=by rw [← hX]; exact BN (GK (by simp))
 have q5:X[h.length+2]? = some (.live 1 [[.sl m k (R.map EG)]]):=by rw [← hX]; exact GK (by simp)
 have e1:(h ++ [ABlk.live 5 [DZ p]]).length=h.length+1:=by simp
 have e2:(h ++ [ABlk.live 5 [DZ p]] ++ [ABlk.live 4 [DR e]]).length=h.length+2:=by simp
 rw [e1,e2]
 clear hX
 have ldp:DF Tryz.prog X 27 (.ptr h.length 0 0)=some (.agg (DZ p)):=by rw [GH VR UG q3 (row:=DZ p) rfl (by rw [JF]; exact jO 5)]; rfl
 have g5:DF Tryz.prog X 33 (.ptr (h.length+2) 0 0)=some (.sl m k (R.map EG)):=by rw [DI AGJ q5 rfl]; rfl
 simp -implicitDefEqProofs only [AZ,AC,AQ,AO,BD,AX,AL,AA,AY,BZ,CB,BP,AB,jF,jE,jD,↓reduceIte,jB,jC,ldp]
 refine (AKR G p hs X).use ?_
 rintro r ⟨z,rfl⟩
 simp -implicitDefEqProofs only [AZ,BM,CE,CQ,AC,AQ,AO,BD,AX,AL,AA,AY,AU,BH,BG,BX,AB,MI,↓reduceIte,jB,jC,enP]
 cases b1:decide (z≤10)
 ·simp -implicitDefEqProofs only [BK,A7,CU,AZ,BB,BM,CE,CQ,I7,AC,AQ,AO,BD,AX,AL,AA,EO,AY,AU,BL,BG,BA,CS,DU,↓reduceIte,jA,jB,jC]
  exact ⟨hx,_,rfl⟩
 simp -implicitDefEqProofs only [BM,CE,CQ,FY,AC,AQ,AO,BD,AX,AL,AA,AY,BZ,BO,CB,BP,AB,jF,jE,jD,↓reduceIte,jA,jB,jC,enP,IU q4]
 refine (AG9 G e hw X).use ?_
 simp -implicitDefEqProofs only [AZ,BM,CE,CQ,FY,AC,AQ,AO,BD,AX,AL,AA,AY,AU,BH,BL,BG,CS,DL,BX,AB,MI,↓reduceIte,jA,jB,jC,enP]
 cases b2:decide (((pre e).length:Int)≤40)
 ·simp -implicitDefEqProofs only [BK,A7,CU,AZ,BB,BM,CE,CQ,I7,AC,AQ,AO,BD,AX,AL,AA,EO,AY,AU,BL,BA,CS,DU,↓reduceIte,jA,jB,jC,b2]
  exact ⟨hx,_,rfl⟩
 simp -implicitDefEqProofs only [BK,A7,CU,AZ,BB,BM,CE,CQ,FY,AC,AQ,AO,BD,AX,AL,AA,AY,AU,BH,BL,BA,CS,DL,BO,BX,BJ,EW,AB,MI,↓reduceIte,jA,jI,jB,jC,enP,QR,KG,b2,g5,jM]
 exact ⟨hx,_,rfl⟩
end
end Go.Proofs.YtgnoolgeijmlaaaGreatDoor.Bl
