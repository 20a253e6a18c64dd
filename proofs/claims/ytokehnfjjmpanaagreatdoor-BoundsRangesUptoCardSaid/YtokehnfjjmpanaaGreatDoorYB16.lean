/- Part 16 of the proof (Nb, Nc, Nd, Ne, Nf, Ng, Xn, Kc); no condition. -/
import Derived.Test.YtokehnfjjmpanaaGreatDoorYB15
set_option linter.unusedVariables false
set_option linter.unusedSimpArgs false
set_option maxRecDepth 8000
namespace Go.Proofs.YtokehnfjjmpanaaGreatDoor.Bd
open Sm Bins Cov Xe Wd Go.RowKit
open Bool renaming not_false→jC,or_false→jM,not_eq_true→qM,not_true→jW
open Int renaming eq_ofNat_of_zero_le→zI,toNat_natCast→zG
open List renaming getD_eq_getElem?_getD→zF,getElem?_eq_getElem→jU,map_cons→jF,map_nil→jD,append_nil→jE,getElem?_map→zA,drop_eq_getElem_cons→zO,drop_eq_nil_of_le→zS,length_map→jR,getElem_mem→jT,take_succ_eq_append_getElem→zY,take_of_length_le→jY,take_succ_cons→zT,take_zero→zC,mem_append→zX,contains_cons→jO,contains_nil→jP,getElem?_cons_succ→zD,getElem?_cons_zero→zB
open Nat renaming le_of_ble_eq_true→jJ,le_refl→jQ,reduceBEq→jI,reduceEqDiff→jA,zero_add→jG,reduceAdd→jL,add_zero→jH,lt_or_ge→jV
open Option renaming getD_some→jB,getD_none→jK
def AOL (l:List Rng) (i:Nat) (r:Rng):Option (List Rng) :=
 (if (sgl r && (r.lo == (l.getD i GV).lo))=true then OM l i (r.lo+1) 65535 else some l).bind fun l=>if (sgl r && (r.lo == (l.getD i GV).hi))=true then OM l i 0 (r.lo - 1) else some l
def OA (op:Int):Int:=if op=17 then 1 else 0
def XL (vars:List Vr) (op v:Int) (e:Ex) (turned:Bool) (l:List Rng):Option (List Rng) :=
 if v < 0 then some l else
 if op=15 then OM l v.toNat (evS vars l e).lo (evS vars l e).hi
 else if op=16 then AOL l v.toNat (evS vars l e)
 else if turned=true then OM l v.toNat ((evS vars l e).lo+OA op) 65535 else OM l v.toNat 0 ((evS vars l e).hi - OA op)
theorem Sx.L {h:Hp} {sb lb:Nat} {p:Pr} {l:List Rng} {L:AV} (h2:NwL h L lb l):LOk h L l:=by
 rcases h2 with ⟨e,rfl⟩ | ⟨rfl,hb,_⟩
 ·rw [e]; exact .inl ⟨.full,rfl⟩
 ·exact .inr ⟨lb,rfl,hb⟩
theorem Sx.some' {h:Hp} {sb lb:Nat} {p:Pr} {r:Option (List Rng)} (n:Sx h sb lb p r):(∃ L cur,h[sb]? = some (.live 7 [DY p ++ [L,.bool true]])∧NwL h L lb cur∧cur.length=p.vars.length∧r=none)∨∃ L l,h[sb]? = some (.live 7 [DY p ++ [L,.bool false]])∧LOk h L l∧NwL h L lb l∧l.length=p.vars.length∧r=some l∧∀ x∈l,wfR x:=by
 obtain ⟨L,cur,em,h1,h2,h3,h4⟩:=n.ex
 cases r with
 | none => 
   have:em=true:=h4
   subst this
   exact .inl ⟨L,cur,h1,h2,h3,rfl⟩
 | some l =>
   obtain ⟨rfl,rfl,h6⟩:=h4
   exact .inr ⟨L,cur,h1,Sx.L (sb:=sb) (p:=p) h2,h2,h3,rfl,h6⟩
section
variable (G:Nat→AV)
set_option maxHeartbeats 4000000 in
theorem N8 (sb lb:Nat) (p:Pr) (hs:PrS p) (hpl:p.vars.length≤1048576) (r:Option (List Rng)) (op v:Int) (hv:v < p.vars.length) (e:Ex) (he:EOk e) (tn:Bool) (h:Hp) (n:Sx h sb lb p r) :
  ACalls (En G) 70 [.ptr sb 0 0,.int .i64 op,.int .i64 v,.agg (CW e),.bool tn] h (SP sb lb p h (r.bind (XL p.vars op v e tn))):=by
 refine IM (H:=⟨fun d=>d == 29,fun _ => []⟩) (enM G) Tryz.func70 rfl (by kernel_rfl) (by kernel_rfl) (jJ (by kernel_rfl)) ?_
 show awp _ _ _ _ _ (EN _ [] _)
 have g8:=DF h (ABlk.live 4 [CW e])
 have n1:=n.ext ((ext.rfl' h).app [ABlk.live 4 [CW e]])
 have k1:=(Kp.rfl' sb lb h).app (ABlk.live 4 [CW e])
 have o8:=n.lt (jQ h.length)
 simp -implicitDefEqProofs only [jI,BB,A8,A7,AZ,BA,BL,BX,CO,AL,BD,AY,AC,AA,AX,AU,BH,BJ,FQ,BU,CB,AB,DV,BF,BQ,↓reduceIte,jA,jB,jC,enP,bxE]
 generalize h ++ [ABlk.live 4 [CW e]]=H at g8 n1 k1 ⊢
 generalize h.length=b8 at g8 o8 ⊢
 refine IA (fun hc => ?_) (fun hc => ?_)
 ·have hc':v < 0:=by simpa using hc
  simp -implicitDefEqProofs only [jI,BK,BI,A7,CJ,ZW,DI,AZ,BA,BL,BX,CO,F7,AL,BD,AY,AC,AA,EQ,AX,AU,BM,CP,DW,↓reduceIte,jA,jB,jC,hc]
  have:r.bind (XL p.vars op v e tn)=r:=by
   cases r with
   | none=>rfl
   | some l=>show XL p.vars op v e tn l=some l; unfold XL; rw [if_pos hc']
  rw [this]
  exact ⟨n1,k1⟩
 have hc' : ¬ v < 0:=by simpa using hc
 obtain ⟨i,rfl⟩:=zI (show 0≤v by omega)
 rcases n1.some' with ⟨L,cur,s1,_,_,rfl⟩ | ⟨L,l,s1,hL,hNL,hll,rfl,hw⟩
 ·simp -implicitDefEqProofs only [jI,BK,BI,A7,CJ,ZW,DI,AZ,BA,BL,BX,CO,EY,AL,BD,AY,AC,AA,AX,AU,BM,BJ,CP,DZ,BO,BG,AB,BF,↓reduceIte,jA,jG,jB,jC,enP,UQ,EM,EW,hc,AAJ s1]
  exact ⟨n1,k1⟩
 simp -implicitDefEqProofs only [jI,BB,BR,BI,A7,DN,AZ,BA,BL,BX,CO,EY,AL,BD,AY,AC,AA,AX,AU,BM,BJ,CP,DZ,BO,BG,AB,BF,↓reduceIte,jA,jG,jB,jC,enP,UQ,EM,EW,hc,AAJ s1]
 have hil:i < l.length:=by omega
 have hgd:l.getD i GV=l[i]:=by rw [zF,jU hil]; rfl
 refine EK (by kernel_rfl) ?_
 simp -implicitDefEqProofs only [ET,jI,DK,CY,DL,EH,MW,EC,C9,EI,Q3,AA,AX,BN,EZ,BO,BG,AB,BF,jF,jD,jE,↓reduceIte,jA,jL,jH,jG,jB,enP,ACQ,RS,EM,FZ,EW,ABU s1,RF s1,G6 g8]
 refine ⟨_,fun x=>YV G p hs l hll (by omega) hw e (by have:=QI e; have:=he.w; omega) he.n (H ++ x) L (hL.ext ((ext.rfl' H).app x)),?_⟩
 simp -implicitDefEqProofs only [ET,jI,DK,CY,FK,D7,DL,FH,BB,A8,BI,A7,AZ,BA,AL,BD,AY,AC,AA,AX,AU,BH,BJ,BC,CU,BU,CB,AB,BZ,CX,BF,BQ,↓reduceIte,jA,jG,jB,jC,enP,jK,KG,NF]
 obtain ⟨q,hq⟩ : ∃ q,evS p.vars l e=q:=⟨_,rfl⟩
 have hwq:wfR q:=by rw [← hq]; exact X6 p.vars hw e he.n
 obtain ⟨q0,q1,q2⟩:=hwq
 rw [hq]
 have g10:=DF H (ABlk.live 2 [encR q])
 have n2:=n1.ext ((ext.rfl' H).app [ABlk.live 2 [encR q]])
 have k2:=k1.app (ABlk.live 2 [encR q])
 have o10:=n1.lt (jQ H.length)
 have s2:=DC (x:=ABlk.live 2 [encR q]) s1
 have hNL2:NwL (H ++ [ABlk.live 2 [encR q]]) L lb l:=by
  rcases hNL with hNL | ⟨e1,e2,e3⟩
  ·exact .inl hNL
  ·exact .inr ⟨e1,DC e2,e3⟩
 generalize H ++ [ABlk.live 2 [encR q]]=H2 at g10 n2 k2 s2 hNL2 ⊢
 generalize H.length=b10 at g10 o10 ⊢
 have hO:XL p.vars op (i:Nat) e tn l=if op=15 then OM l i q.lo q.hi else if op=16 then AOL l i q else if tn=true then OM l i (q.lo+OA op) 65535 else OM l i 0 (q.hi - OA op):=by
  unfold XL
  rw [if_neg (by omega),zG,hq]
 have hb':(some l).bind (XL p.vars op (i:Nat) e tn)=XL p.vars op (i:Nat) e tn l:=rfl
 rw [hb',hO]
 refine OU (fun F H'=>F 0 = .ptr sb 0 0∧F 1 = .int .i64 op∧F 2 = .int .i64 (i:Nat)∧F 4 = .bool tn∧F 10 = .ptr b10 0 0∧F 11 = .int .i64 (OA op)∧H'=H2) (fun _ _=>False) (fun hd => ?_) (fun hd => ?_) ?_ (fun _ _ q=>q.elim)
 ·have hd:op=17:=by simpa using hd
  simp -implicitDefEqProofs only [jI,A8,KW,AZ,BA,AL,BD,AY,AC,AA,AU,BH,BC,BF,BQ,↓reduceIte,jA,jB,jC]
  exact ⟨by trivial,by trivial,by trivial,by trivial,by trivial,by unfold OA; rw [if_pos hd],trivial⟩
 ·have hd : ¬ op=17:=by simpa using hd
  simp -implicitDefEqProofs only [BR,KW,AA,BF,BQ,↓reduceIte,jA]
  exact ⟨by trivial,by trivial,by trivial,by trivial,by trivial,by unfold OA; rw [if_neg hd],trivial⟩
 rintro F H' ⟨f0,f1,f2,f4,f10,f11,rfl⟩
 have hless:0≤OA op∧OA op≤1:=by unfold OA; split <;> omega
 simp -implicitDefEqProofs only [jI,BB,CE,A8,BI,A7,AZ,BA,AL,BD,AY,AC,AA,AX,AU,BH,BJ,BC,BU,AB,CX,↓reduceIte,jB,jC,enP,f1]
 refine CQ (fun h15 => ?_) (fun h15 => ?_)
 ·have h15:op=15:=by simpa using h15
  rw [if_pos h15]
  simp -implicitDefEqProofs only [jI,A8,AZ,AL,BD,AY,AC,AA,AX,BN,BJ,BO,BG,BV,BP,AB,jF,jD,jE,↓reduceIte,jA,jH,jG,jB,jC,enP,FB,FN,f0,f2,f10,FX g10,GI g10]
  refine ACalls.mono (QW G sb lb p (some l) i (by omega) q.lo q.hi H' n2) ?_
  rintro v H3 qq
  simp -implicitDefEqProofs only [EO,G9,BA,AC]
  exact SP.post k2 qq
 have h15 : ¬ op=15:=by simpa using h15
 rw [if_neg h15]
 simp -implicitDefEqProofs only [jI,BB,A8,BI,A7,AZ,BA,AL,BD,AY,AC,AA,AX,AU,BH,BJ,BC,BU,AB,CX,↓reduceIte,jA,jB,jC,enP,f1]
 refine CQ (fun h16 => ?_) (fun h16 => ?_)
 ·have h16:op=16:=by simpa using h16
  rw [if_pos h16]
  have own : ∀ {H:Hp} {L:AV} {cur:List Rng},NwL H L lb cur→(hi:i < cur.length)→L = .own lb 0 cur.length∧I4 2 H (.own lb 0 cur.length) (.int .i64 (i:Nat))=some (.ptr lb i 0)∧DR Tryz.prog H 3 (.ptr lb i 0)=some (.int .i64 cur[i].lo)∧DR Tryz.prog H 3 (.ptr lb i 1)=some (.int .i64 cur[i].hi):=by
   intro H L cur hN hi
   rcases hN with ⟨e,_⟩ | ⟨e1,hb,_⟩
   ·rw [e] at hi; simp at hi
   ·have i1:I4 2 H (.own lb 0 cur.length) (.int .i64 (i:Nat))=some (.ptr lb (0+i) 0):=JK hb hi
    rw [jG] at i1
    exact ⟨e1,i1,by rw [DJ ag3 hb (row:=encR cur[i]) (by rw [zA,jU hi]; rfl)]; rfl,by rw [DJ ag3 hb (row:=encR cur[i]) (by rw [zA,jU hi]; rfl)]; rfl⟩
  obtain ⟨rfl,i1,dlo,_⟩:=own hNL2 hil
  unfold AOL
  rw [hgd]
  simp -implicitDefEqProofs only [BB]
  refine EK (by kernel_rfl) ?_
  simp -implicitDefEqProofs only [ET,jI,DK,CY,DL,EJ,E8,EH,EC,EI,EE,CO,AA,AX,BN,BO,AB,jF,jD,jE,↓reduceIte,jA,jL,jB,enP,f10,IW g10]
  refine ⟨_,SL G q _,?_⟩
  try simp -implicitDefEqProofs only []
  refine AS1 (fun F' H2=>F' 0 = .ptr sb 0 0∧F' 2 = .int .i64 (i:Nat)∧F' 10 = .ptr b10 0 0∧F' 66 = .bool (sgl q && (q.lo == l[i].lo))∧H2=H') ?_ ?_
  ·refine OZ (fun hg => ?_) (fun hg => ?_)
   ·simp -implicitDefEqProofs only [ET,jI,DK,CY,D7,DL,EJ,E8,NQ,EH,GK,EC,HY,C9,D9,CO,AA,AX,AU,BM,CP,DW,BO,BU,BG,CG,AB,CX,↓reduceIte,jA,jL,jH,jG,jB,enP,JO,FB,RS,EM,FZ,EW,hg,f0,f2,f10,FX g10,RF s2,i1,dlo]
    exact ⟨by trivial,by trivial,by trivial,by trivial,trivial⟩
   ·simp -implicitDefEqProofs only [ET,jI,DK,CY,D7,DL,EJ,E8,SC,GK,CO,AA,EQ,AX,AU,BM,CP,DZ,↓reduceIte,jA,jL,jB,hg]
    exact ⟨by trivial,by trivial,by trivial,by trivial,trivial⟩
  clear f0 f1 f2 f4 f10 f11
  rintro F H3 ⟨f0,f2,f10,f66,rfl⟩
  simp -implicitDefEqProofs only [BI,A7,AX,f66]
  refine OU (fun F' H4=>Sx H4 sb lb p (if (sgl q && (q.lo == l[i].lo))=true then OM l i (q.lo+1) 65535 else some l)∧Kp sb lb H3 H4∧F' 0 = .ptr sb 0 0∧F' 2 = .int .i64 (i:Nat)∧F' 10 = .ptr b10 0 0) (fun _ _=>False) (fun hd => ?_) (fun hd => ?_) ?_ (fun _ _ q=>q.elim)
  ·rw [if_pos hd]
   simp -implicitDefEqProofs only [jI,A8,AZ,AL,BD,AY,AC,AA,AX,AU,BN,BH,BJ,BO,BU,BG,BV,BP,AB,D6,jF,jD,jE,↓reduceIte,jA,jH,jB,jC,enP,FB,f0,f2,f10,FX g10,wrap_i64 (n:=q.lo+1) (by omega) (by omega)]
   refine ACalls.mono (QW G sb lb p (some l) i (by omega) (q.lo+1) 65535 H3 n2) ?_
   rintro v H4 ⟨n',k'⟩
   simp -implicitDefEqProofs only [KW,BA,AC,AA,↓reduceIte,jA]
   exact ⟨n',k',by trivial,by trivial,by trivial⟩
  ·rw [if_neg (by rw [hd]; decide)]
   simp -implicitDefEqProofs only [BR,KW]
   exact ⟨n2,Kp.rfl' _ _ _,by trivial,by trivial,by trivial⟩
  clear i1 dlo f0 f2 f10 f66
  generalize (if (sgl q && (q.lo == l[i].lo))=true then OM l i (q.lo+1) 65535 else some l)=r1
  rintro F H4 ⟨n3,k3,f0,f2,f10⟩
  have g10:=k3.1 _ _ g10 (by omega) (by omega)
  obtain ⟨L3,cur,em,h1,hN3,hl3,hR3⟩:=n3.ex
  have hic:i < cur.length:=by omega
  obtain ⟨rfl,i1,_,dhi⟩:=own hN3 hic
  have k23:=k2.trans k3
  simp -implicitDefEqProofs only [BB,A7]
  refine EK (by kernel_rfl) ?_
  simp -implicitDefEqProofs only [ET,jI,DK,CY,DL,EJ,E8,EH,EC,EI,EE,CO,AA,AX,BN,BO,AB,jF,jD,jE,↓reduceIte,jL,jB,enP,f10,IW g10]
  refine ⟨_,SL G q _,?_⟩
  try simp -implicitDefEqProofs only []
  refine AS1 (fun F' H2=>F' 0 = .ptr sb 0 0∧F' 2 = .int .i64 (i:Nat)∧F' 10 = .ptr b10 0 0∧F' 87 = .bool (sgl q && (q.lo == cur[i].hi))∧H2=H4) ?_ ?_
  ·refine OZ (fun hg => ?_) (fun hg => ?_)
   ·simp -implicitDefEqProofs only [ET,jI,DK,CY,D7,DL,EJ,E8,NQ,EH,GK,EC,HY,C9,D9,CO,AA,AX,AU,BM,CP,DW,BO,BU,BG,CG,AB,CX,↓reduceIte,jA,jL,jH,jG,jB,enP,JO,FB,FN,RS,EM,FZ,EW,hg,f0,f2,f10,FX g10,RF h1,i1,dhi]
    exact ⟨by trivial,by trivial,by trivial,by trivial,trivial⟩
   ·simp -implicitDefEqProofs only [ET,jI,DK,CY,D7,DL,EJ,E8,SC,GK,CO,AA,EQ,AX,AU,BM,CP,DZ,↓reduceIte,jA,jL,jB,hg]
    exact ⟨by trivial,by trivial,by trivial,by trivial,trivial⟩
  clear f0 f2 f10
  rintro F H5 ⟨f0,f2,f10,f87,rfl⟩
  have hgo:(r1.bind fun l=>if (sgl q && (q.lo == (l.getD i GV).hi))=true then OM l i 0 (q.lo - 1) else some l)=if (sgl q && (q.lo == cur[i].hi))=true then (r1.bind fun l=>OM l i 0 (q.lo - 1)) else r1:=by
   cases r1 with
   | none=>split <;> rfl
   | some l' =>
     obtain ⟨_,rfl,_⟩:=hR3
     have:cur.getD i GV=cur[i]:=by rw [zF,jU hic]; rfl
     show (if (sgl q && (q.lo == (cur.getD i GV).hi))=true then _ else _)=_
     rw [this]; rfl
  rw [hgo]
  simp -implicitDefEqProofs only [BI,A7,AX,f87]
  refine CQ (fun hd => ?_) (fun hd => ?_)
  ·rw [if_pos hd]
   simp -implicitDefEqProofs only [jI,A8,AZ,AL,BD,AY,AC,AA,AX,AU,BN,BH,BJ,BO,BU,BG,BV,BP,AB,II,jF,jD,jE,↓reduceIte,jA,jH,jB,jC,enP,FB,f0,f2,f10,FX g10,wrap_i64 (n:=q.lo - 1) (by omega) (by omega)]
   refine ACalls.mono (QW G sb lb p r1 i (by omega) 0 (q.lo - 1) H5 n3) ?_
   rintro v H6 qq
   simp -implicitDefEqProofs only [EO,G9,BA,AC]
   exact SP.post k23 qq
  ·rw [if_neg (by rw [hd]; decide)]
   simp -implicitDefEqProofs only [BR,EO,G9]
   exact ⟨n3,k23⟩
 have h16 : ¬ op=16:=by simpa using h16
 rw [if_neg h16]
 simp -implicitDefEqProofs only [jI,BB,A8,BI,A7,AZ,BA,AL,BD,AY,AC,AA,AX,BJ,BC,↓reduceIte,jA,jB,jC,f4]
 refine CQ (fun ht => ?_) (fun ht => ?_)
 ·rw [if_pos ht]
  simp -implicitDefEqProofs only [jI,A8,AZ,AL,BD,AY,AC,AA,AX,AU,BN,BH,BJ,BO,BU,BG,BV,BP,AB,D6,jF,jD,jE,↓reduceIte,jA,jH,jB,jC,enP,FB,f0,f2,f10,f11,FX g10,wrap_i64 (n:=q.lo+OA op) (by omega) (by omega)]
  refine ACalls.mono (QW G sb lb p (some l) i (by omega) (q.lo+OA op) 65535 H' n2) ?_
  rintro v H3 qq
  simp -implicitDefEqProofs only [EO,G9,BA,AC]
  exact SP.post k2 qq
 ·rw [if_neg (by rw [ht]; decide)]
  simp -implicitDefEqProofs only [jI,A8,AZ,AL,BD,AY,AC,AA,AX,AU,BN,BH,BJ,BO,BU,BG,BV,BP,AB,II,jF,jD,jE,↓reduceIte,jA,jG,jB,jC,enP,FN,f0,f2,f10,f11,GI g10,wrap_i64 (n:=q.hi - OA op) (by omega) (by omega)]
  refine ACalls.mono (QW G sb lb p (some l) i (by omega) 0 (q.hi - OA op) H' n2) ?_
  rintro v H3 qq
  simp -implicitDefEqProofs only [EO,G9,BA,AC]
  exact SP.post k2 qq
end
def memT:List Rng→Int × Int × Bool→Int × Int × Bool
 | a :: b :: r,p=>memT r (if a.lo≤b.hi then (min p.1 a.lo,max p.2.1 b.hi,true) else p)
 | _,p=>p
theorem ANZ (l:List Rng) (k:Nat) (p:Int × Int × Bool) (hk:k+1 < l.length):memT (l.drop k) p=memT (l.drop (k+2)) (if l[k].lo≤l[k+1].hi then (min p.1 l[k].lo,max p.2.1 l[k+1].hi,true) else p):=by
 rw [zO (by omega:k < l.length),zO hk]; rfl
theorem AQJ (l:List Rng) (k:Nat) (p:Int × Int × Bool) (hk:l.length≤k+1):memT (l.drop k) p=p:=by
 rcases jV k l.length with h | h
 ·rw [zO h,zS hk]; rfl
 ·rw [zS h]; rfl
def AN1 (vars:List Vr) (i:Nat) (args:List Ex) (l:List Rng):Option (List Rng) :=
 if (memT ((MQ vars l args).drop 1) (65535,0,false)).2.2=true then OM l i (memT ((MQ vars l args).drop 1) (65535,0,false)).1 (memT ((MQ vars l args).drop 1) (65535,0,false)).2.1 else none
def ZB (ws:List Wg):Int × Int:=ws.foldl ZC (65535,-1)
def AGW (d:Ds) (l:List Rng):Option (List Rng):=OM l d.var.toNat (ZB d.ws).1 (ZB d.ws).2
section
variable (G:Nat→AV)
set_option maxHeartbeats 4000000 in
theorem AJ6 (sb lb:Nat) (p:Pr) (hs:PrS p) (hpl:p.vars.length≤1048576) (l:List Rng) (i:Nat) (hi:i < p.vars.length) (e:Ex) (ha : ∀ a∈e.args,EOk a) (hal:e.args.length≤1048576) (h:Hp) (n:Sx h sb lb p (some l)) :
  ACalls (En G) 71 [.ptr sb 0 0,.int .i64 (i:Nat),.agg (CW e)] h (SP sb lb p h (AN1 p.vars i e.args l)):=by
 refine IM (H:=⟨fun d=>d == 33 || d == 48,fun _ => []⟩) (enM G) Tryz.func71 rfl (by kernel_rfl) (by kernel_rfl) (jJ (by kernel_rfl)) ?_
 show awp _ _ _ _ _ (EN _ [] _)
 have g5:=DF h (ABlk.live 4 [CW e])
 have n1:=n.ext ((ext.rfl' h).app [ABlk.live 4 [CW e]])
 have k1:=(Kp.rfl' sb lb h).app (ABlk.live 4 [CW e])
 simp -implicitDefEqProofs only [jI,jM,BB,CE,A8,A7,AZ,BA,AL,BD,AY,AC,AX,AU,BH,BM,BC,FQ,CB,BF,BQ,jB,jC,enP,bxE]
 generalize h ++ [ABlk.live 4 [CW e]]=H0 at g5 n1 k1 ⊢
 generalize h.length=b5 at g5 ⊢
 obtain ⟨R,hR⟩ : ∃ R,memT ((MQ p.vars l e.args).drop 1) (65535,0,false)=R:=⟨_,rfl⟩
 have hM:AN1 p.vars i e.args l=if R.2.2=true then OM l i R.1 R.2.1 else none:=by unfold AN1; rw [hR]
 rw [hM]
 refine IY 0 (fun F H=>F 0 = .ptr sb 0 0∧F 1 = .int .i64 (i:Nat)∧F 6 = .int .i64 R.1∧F 7 = .int .i64 R.2.1∧F 8 = .bool R.2.2∧Sm.ext H0 H) (fun _ _=>False) ?_ ?_ (fun _ _ q=>q.elim)
 ·refine EG (fun m F H => ∃ k t,m+k=e.args.length+2∧F 0 = .ptr sb 0 0∧F 1 = .int .i64 (i:Nat)∧F 5 = .ptr b5 0 0∧F 6 = .int .i64 t.1∧F 7 = .int .i64 t.2.1∧F 8 = .bool t.2.2∧F 9 = .int .i64 (k:Nat)∧Sm.ext H0 H∧R=memT ((MQ p.vars l e.args).drop k) t) (e.args.length+1)
   ⟨1,(65535,0,false),by omega,by simp -implicitDefEqProofs only [AA,BF,↓reduceIte,jA],by simp -implicitDefEqProofs only [AA,BF,BQ,↓reduceIte,jA],by simp -implicitDefEqProofs only [AA,↓reduceIte,jA],by simp -implicitDefEqProofs only [AA,↓reduceIte,jA],by simp -implicitDefEqProofs only [AA,↓reduceIte,jA],by simp -implicitDefEqProofs only [AA,↓reduceIte,jA],by simp -implicitDefEqProofs only [AA,↓reduceIte]; rfl,ext.rfl' _,hR.symm⟩ ?_
  rintro m F H ⟨k,t,hm,f0,f1,f5,f6,f7,f8,f9,hx,he⟩
  have g5H:=FD hx g5
  have l3:DR Tryz.prog H 23 (.ptr b5 0 3)=some (.sl e.m 4 (e.args.map CW)):=by rw [DJ NM g5H (row:=CW e) rfl,NE]
  simp -implicitDefEqProofs only [jI,jM,BB,A8,BI,A7,AZ,BA,AL,BD,AY,AC,AA,AX,AU,BH,BJ,BO,BU,BG,FP,AB,D6,DV,↓reduceIte,jA,jG,jB,jC,enP,TD,IJ,f5,f9,l3,wrap_succ (show k < 9223372036854775807 by omega),jR]
  refine CQ (fun hc => ?_) (fun hc => ?_)
  ·have hc:k+1 < e.args.length:=by simp at hc; omega
   have hk0:k < e.args.length:=by omega
   have hlen:=OQ p.vars l e.args
   have hst:=ANZ (MQ p.vars l e.args) k t (by omega)
   have nH:=n1.ext hx
   have a1:=ha _ (jT hk0)
   have a2:=ha _ (jT hc)
   have ev1:(MQ p.vars l e.args)[k]'(by omega)=evS p.vars l e.args[k]:=by simp [J6]
   have ev2:(MQ p.vars l e.args)[k+1]'(by omega)=evS p.vars l e.args[k+1]:=by simp [J6]
   rw [ev1,ev2] at hst
   rcases nH.some' with ⟨_,_,_,_,_,q⟩ | ⟨L,l',s1,hL,hNL,hll,q,hw⟩
   ·cases q
   cases q
   have ev : ∀ (a:Ex),EOk a→∀ H':Hp,Sm.ext H H'→PCall (En G) 42 [.agg (CW a),.agg (DY p),L] H' (.agg (encR (evS p.vars l a))):=fun a ha H' hx'=>YV G p hs l hll (by omega) hw a (by have:=QI a; have:=ha.w; omega) ha.n H' L (hL.ext hx')
   simp -implicitDefEqProofs only [BB,CE,BR,A7]
   refine EK (by kernel_rfl) ?_
   simp -implicitDefEqProofs only [ET,jI,jM,DK,CY,DL,EH,MW,EC,C9,D9,EI,Q3,AA,AX,BN,EZ,BO,BG,CG,AB,jF,jD,jE,↓reduceIte,jA,jL,jH,jG,jB,enP,LQ,IJ,ACQ,RS,EM,FZ,EW,f0,f5,f9,l3,EX hk0,EU KJ JR ES hk0,ABU s1,RF s1]
   refine ⟨_,fun x=>ev _ a1 _ ((ext.rfl' H).app x),?_⟩
   have g10:=DF H (ABlk.live 2 [encR (evS p.vars l e.args[k])])
   have hx1:=(ext.rfl' H).app [ABlk.live 2 [encR (evS p.vars l e.args[k])]]
   simp -implicitDefEqProofs only [ET,jI,jM,DK,CY,FK,D7,DL,FH,BB,A7,AA,AX,CU,CB,BZ,↓reduceIte,jA,jG,enP,jK,KG,NF]
   generalize H ++ [ABlk.live 2 [encR (evS p.vars l e.args[k])]]=H1 at g10 hx1 ⊢
   generalize H.length=b10 at g10 ⊢
   have l3':DR Tryz.prog H1 23 (.ptr b5 0 3)=some (.sl e.m 4 (e.args.map CW)):=by rw [DJ NM (FD hx1 g5H) (row:=CW e) rfl,NE]
   have s1':=FD hx1 s1
   refine EK (by kernel_rfl) ?_
   simp -implicitDefEqProofs only [ET,jI,jM,Bool.or_true,DK,CY,DL,EH,MW,EC,HY,C9,D9,EI,Q3,AA,AX,AU,BN,BH,EZ,BO,BU,BG,CG,AB,D6,jF,jD,jE,↓reduceIte,jA,jL,jH,jG,jB,enP,LQ,IJ,ACQ,RS,EM,FZ,EW,f0,f5,f9,l3',wrap_succ (show k < 9223372036854775807 by omega),EX hc,EU KJ JR ES hc,ABU s1',RF s1']
   refine ⟨_,fun x=>ev _ a2 _ (hx1.app x),?_⟩
   have g11:=DF H1 (ABlk.live 2 [encR (evS p.vars l e.args[k+1])])
   have hx2:=hx1.app [ABlk.live 2 [encR (evS p.vars l e.args[k+1])]]
   have g10':=DC (x:=ABlk.live 2 [encR (evS p.vars l e.args[k+1])]) g10
   simp -implicitDefEqProofs only [ET,jI,jM,DK,CY,FK,D7,DL,FH,BB,A8,A7,AZ,AL,BD,AY,AC,AA,AX,BO,CU,BG,CB,AB,BZ,↓reduceIte,jA,jH,jG,jB,jC,enP,FB,jK,KG,NF]
   generalize H1 ++ [ABlk.live 2 [encR (evS p.vars l e.args[k+1])]]=H2 at g11 hx2 g10' ⊢
   generalize H1.length=b11 at g11 ⊢
   have hxx:=hx.trans hx2
   have w2:IntKind.i64.wrap ((k:Int)+2)=((k+2:Nat):Int):=by rw [wrap_i64 (by omega) (by omega)]; omega
   simp -implicitDefEqProofs only [jI,jM,BI,A7,AZ,BA,AL,BD,AY,AC,AA,AX,BO,BU,BG,AB,IR,↓reduceIte,jA,jG,jB,jC,enP,FN,FX g10',GI g11]
   refine CQ (fun hd => ?_) (fun hd => ?_)
   ·have hd:(evS p.vars l e.args[k]).lo≤(evS p.vars l e.args[k+1]).hi:=by simpa using hd
    rw [if_pos hd] at hst
    simp -implicitDefEqProofs only [jI,jM,BB,A8,A7,EO,FO,AZ,BA,AL,BD,AY,AC,AA,AX,AU,BH,BM,BJ,BC,BO,BU,BG,Q8,TK,AB,D6,NU,O6,↓reduceIte,jA,jH,jG,jB,jC,enP,FB,FN,f6,f7,f9,FX g10',GI g11,w2]
    exact ⟨m - 2,by omega,k+2,(min t.1 (evS p.vars l e.args[k]).lo,max t.2.1 (evS p.vars l e.args[k+1]).hi,true),by omega,by trivial,by trivial,by trivial,by trivial,by trivial,by trivial,by trivial,hxx,by rw [he,hst]⟩
   ·have hd : ¬ (evS p.vars l e.args[k]).lo≤(evS p.vars l e.args[k+1]).hi:=by simpa using hd
    rw [if_neg hd] at hst
    simp -implicitDefEqProofs only [jI,jM,A8,BR,A7,EO,FO,AZ,BA,AL,BD,AY,AC,AA,AX,AU,BH,BJ,BC,BU,AB,D6,↓reduceIte,jA,jB,jC,enP,f9,w2]
    exact ⟨m - 2,by omega,k+2,t,by omega,by trivial,by trivial,by trivial,by trivial,by trivial,by trivial,by trivial,hxx,by rw [he,hst]⟩
  ·have hc : ¬ k+1 < e.args.length:=by simp at hc; omega
   rw [AQJ _ _ _ (by rw [OQ]; omega)] at he
   subst he
   simp -implicitDefEqProofs only [EF,FC,MG,F8,AA,↓reduceIte,jA]
   exact ⟨f0,f1,f6,f7,f8,hx⟩
 ·rintro F H ⟨f0,f1,f6,f7,f8,hx⟩
  have nH:=n1.ext hx
  have kH:=k1.trans (Kp.ofExt (nb:=sb) (lb:=lb) hx)
  simp -implicitDefEqProofs only [jI,jM,BB,A8,BI,A7,F6,AZ,BA,AL,BD,AY,AC,AA,AX,BJ,JG,AB,GG,↓reduceIte,jB,jC,f8]
  refine CQ (fun hc => ?_) (fun hc => ?_)
  ·have hc:R.2.2=false:=by simpa using hc
   rw [if_neg (by rw [hc]; decide)]
   rcases nH.some' with ⟨_,_,_,_,_,q⟩ | ⟨L,l',s1,hL,hNL,hll,q,hw⟩
   ·cases q
   cases q
   simp -implicitDefEqProofs only [jI,jM,BB,A8,BK,A7,CJ,ZW,AZ,BA,AL,BD,AY,AC,DU,AA,AX,AU,BM,BJ,CU,BG,AB,BZ,↓reduceIte,jA,jG,jB,jC,enP,UQ,jK,EM,EW,f0,AV5 s1]
   refine ⟨⟨⟨L,l,true,G7 s1,?_,hll,rfl⟩,nH.ne,by rw [List.length_set]; exact nH.lbl⟩,kH.setN _⟩
   rcases hNL with hNL | ⟨e1,e2,e3⟩
   ·exact .inl hNL
   ·exact .inr ⟨e1,by rw [List.getElem?_set_ne (nH.ne (by omega))]; exact e2,e3⟩
  ·have hc:R.2.2=true:=by simpa using hc
   rw [if_pos hc]
   simp -implicitDefEqProofs only [jI,jM,A8,BR,A7,AZ,AL,BD,AY,AC,AA,AX,BN,BJ,BV,BP,jF,jD,jE,↓reduceIte,jA,jB,jC,f0,f1,f6,f7]
   refine ACalls.mono (QW G sb lb p (some l) i hi R.1 R.2.1 H nH) ?_
   rintro v H' qq
   simp -implicitDefEqProofs only [G9,BA,AC]
   exact SP.post kH qq
set_option maxHeartbeats 1000000 in
theorem AGY (sb lb:Nat) (p:Pr) (r:Option (List Rng)) (d:Ds) (hv:NC p.vars d.var=true) (hwl:d.ws.length≤1048576) (h:Hp) (n:Sx h sb lb p r) :
  ACalls (En G) 39 [.ptr sb 0 0,.agg (JE d)] h (SP sb lb p h (r.bind (AGW d))):=by
 obtain ⟨i,hi,hvi,_⟩:=O4 hv
 refine acN Tryz.func39 rfl ?_
 show awp _ _ _ _ _ (EN _ [] _)
 have g3:=DF h (ABlk.live 2 [JE d])
 have hx0:Sm.ext h (h ++ [ABlk.live 2 [JE d]]):=(ext.rfl' h).app _
 simp -implicitDefEqProofs only [BB,CE,A8,A7,AZ,BA,AO,AQ,AL,BD,AY,AC,AX,AU,BH,BC,FQ,CB,BF,BQ,jB,jC,enP,bxD]
 generalize h ++ [ABlk.live 2 [JE d]]=H0 at g3 hx0 ⊢
 generalize h.length=b3 at g3 ⊢
 refine IY 0 (fun F H=>F 0 = .ptr sb 0 0∧F 3 = .ptr b3 0 0∧F 4 = .int .i64 (ZB d.ws).1∧F 5 = .int .i64 (ZB d.ws).2∧Sm.ext H0 H) (fun _ _=>False) ?_ ?_ (fun _ _ q=>q.elim)
 ·refine EG (fun n F H => ∃ k,n+k=d.ws.length∧F 0 = .ptr sb 0 0∧F 3 = .ptr b3 0 0∧F 4 = .int .i64 (ZB (d.ws.take k)).1∧F 5 = .int .i64 (ZB (d.ws.take k)).2∧F 6 = .int .i64 (k:Nat)∧Sm.ext H0 H) d.ws.length
   ⟨0,by simp,by simp -implicitDefEqProofs only [AA,BF,↓reduceIte,jA],by simp -implicitDefEqProofs only [AA,↓reduceIte,jA],by simp -implicitDefEqProofs only [AA,↓reduceIte,jA]; rfl,by simp -implicitDefEqProofs only [AA,↓reduceIte,jA]; rfl,by simp -implicitDefEqProofs only [AA,↓reduceIte]; rfl,ext.rfl' _⟩ ?_
  rintro q F H ⟨k,hq,f0,f3,f4,f5,f6,hx⟩
  have l50:DR Tryz.prog H 50 (.ptr b3 0 1)=some (.sl d.wm 4 (d.ws.map JA)):=by rw [DJ AVU (FD hx g3) (row:=JE d) rfl]; rfl
  simp -implicitDefEqProofs only [BB,A8,BI,A7,AZ,BA,AO,AQ,AL,BD,AY,AC,AA,AX,BJ,BO,BU,BG,FP,AB,DV,↓reduceIte,jA,jG,jB,jC,enP,AN7,V3,f3,f6,l50,jR]
  refine CQ (fun hc => ?_) (fun hc => ?_)
  ·have hk':k < d.ws.length:=by simpa using hc
   have hst:ZB (d.ws.take (k+1))=ZC (ZB (d.ws.take k)) d.ws[k]:=by unfold ZB; rw [zY hk',List.foldl_append]; rfl
   have g7:=DF H (ABlk.live 4 [JA d.ws[k]])
   have hx1:=hx.app [ABlk.live 4 [JA d.ws[k]]]
   simp -implicitDefEqProofs only [BB,CE,A8,BR,A7,AZ,BA,AO,AQ,AL,BD,AY,AC,DU,AA,AX,BJ,EZ,BO,CU,BG,CG,CB,AB,BZ,↓reduceIte,jA,jG,jB,jC,enP,AUO,V3,ZP,jK,f3,f6,l50,EX hk',EU AVT ANI TV hk',AYV,AW7]
   generalize H ++ [ABlk.live 4 [JA d.ws[k]]]=H1 at g7 hx1 ⊢
   generalize H.length=b7 at g7 ⊢
   have e0:DR Tryz.prog H1 3 (.ptr b7 0 0)=some (.int .i64 d.ws[k].lo):=by rw [DJ ag3 g7 (row:=JA d.ws[k]) rfl]; rfl
   have e1:DR Tryz.prog H1 3 (.ptr b7 0 1)=some (.int .i64 d.ws[k].hi):=by rw [DJ ag3 g7 (row:=JA d.ws[k]) rfl]; rfl
   have e2:DR Tryz.prog H1 3 (.ptr b7 0 2)=some (.int .i64 d.ws[k].w):=by rw [DJ ag3 g7 (row:=JA d.ws[k]) rfl]; rfl
   simp -implicitDefEqProofs only [BI,A7,AZ,BA,AO,AQ,AL,BD,AY,AC,AA,AX,AU,BH,BU,AB,FM,↓reduceIte,jB,jC,enP,e2]
   unfold ZC at hst
   refine CQ (fun hd => ?_) (fun hd => ?_)
   ·have hd:d.ws[k].w > 0:=by simpa using hd
    rw [if_pos hd] at hst
    simp -implicitDefEqProofs only [BB,A8,A7,EO,FO,AZ,BA,AO,AQ,AL,BD,AY,AC,AA,AX,AU,BH,BJ,BC,BO,BU,BG,Q8,TK,AB,D6,NU,O6,↓reduceIte,jA,jH,jG,jB,jC,enP,QL,TF,f4,f5,f6,e0,e1,wrap_succ (show k < 9223372036854775807 by omega)]
    exact ⟨q - 1,by omega,k+1,by omega,by trivial,by trivial,by rw [hst],by rw [hst],by trivial,hx1⟩
   ·have hd : ¬ d.ws[k].w > 0:=by simpa using hd
    rw [if_neg hd] at hst
    simp -implicitDefEqProofs only [A8,BR,A7,EO,FO,AZ,BA,AO,AQ,AL,BD,AY,AC,AA,AX,AU,BH,BJ,BC,BU,AB,D6,↓reduceIte,jA,jB,jC,enP,f6,wrap_succ (show k < 9223372036854775807 by omega)]
    exact ⟨q - 1,by omega,k+1,by omega,by trivial,by trivial,by rw [hst]; exact f4,by rw [hst]; exact f5,by trivial,hx1⟩
  ·have hk' : ¬ k < d.ws.length:=by simpa using hc
   rw [jY (by omega)] at f4 f5
   simp -implicitDefEqProofs only [EF,FC,MG,F8,AA,↓reduceIte,jA]
   exact ⟨f0,f3,f4,f5,hx⟩
 ·rintro F H ⟨f0,f3,f4,f5,hx⟩
  have hxx:=hx0.trans hx
  have nH:=n.ext hxx
  have kH:=Kp.ofExt (nb:=sb) (lb:=lb) hxx
  have l3:DR Tryz.prog H 3 (.ptr b3 0 0)=some (.int .i64 d.var):=by rw [DJ ag3 (FD hx g3) (row:=JE d) rfl]; rfl
  have hd:AGW d=fun l=>OM l i (ZB d.ws).1 (ZB d.ws).2:=by funext l; unfold AGW; rw [hvi,zG]
  rw [hd]
  simp -implicitDefEqProofs only [A8,A7,F6,AZ,AO,AQ,AL,BD,AY,AC,AA,AX,BN,BJ,BO,BG,BV,BP,AB,jF,jD,jE,↓reduceIte,jA,jH,jB,jC,enP,V4,f0,f3,f4,f5,l3,hvi]
  refine ACalls.mono (QW G sb lb p r i hi _ _ H nH) ?_
  rintro v H' qq
  simp -implicitDefEqProofs only [G9,BA,AC]
  exact SP.post kH qq
end
def atO (vars:List Vr) (a:Ex) (f:List Rng→Nat→Option (List Rng)) (l:List Rng):Option (List Rng):=if 0≤vix vars a then f l (vix vars a).toNat else some l
def AYF (vars:List Vr) (op:Int) (a b:Ex) (l:List Rng):Option (List Rng):=(XL vars op (vix vars a) b false l).bind (XL vars op (vix vars b) a true)
def AHU (vars:List Vr) (op:Int) (name:ByteArray) (args:List Ex) (rec:List Rng→Option (List Rng)) (l:List Rng):Option (List Rng) :=
 if op=2 then OM l (plc vars name).toNat 1 65535
 else if op=4 then atO vars (args.getD 0 ex0) (fun l i=>OM l i 0 0) l
 else if op=19 then rec l
 else if op=15∨op=16∨op=17∨op=18 then AYF vars op (args.getD 0 ex0) (args.getD 1 ex0) l
 else if op=23 then atO vars (args.getD 0 ex0) (fun l i=>AN1 vars i args l) l
 else some l
mutual
def XN (vars:List Vr):Ex→List Rng→Option (List Rng)
 | .mk op _ name _ args=>AHU vars op name args (P7 vars args)
def P7 (vars:List Vr):List Ex→List Rng→Option (List Rng)
 | []=>fun l=>some l
 | e :: es=>fun l=>(XN vars e l).bind (P7 vars es)
end
theorem AMC (vars:List Vr) (e:Ex):XN vars e=AHU vars e.op e.name e.args (P7 vars e.args):=by cases e; simp [XN,Ex.op,Ex.name,Ex.args]
def Knw (vars:List Vr) (e:Ex):Prop := ∀ x∈pre e,x.op=2→0≤plc vars x.name
theorem Knw.arg {vars:List Vr} {e a:Ex} (h:Knw vars e) (ha:a∈e.args):Knw vars a:=fun x hx=>h x (by rw [pre_eq]; exact List.mem_cons_of_mem _ (ND ha x hx))
theorem SP.res {sb lb:Nat} {p:Pr} {h:Hp} {r r':Option (List Rng)} {v:AV} {H:Hp} (e:r=r') (q:SP sb lb p h r v H):SP sb lb p h r' v H:=e ▸ q
section
variable (G:Nat→AV)
set_option maxHeartbeats 4000000 in
theorem AYJ (sb lb:Nat) (p:Pr) (hs:PrS p) (hpl:p.vars.length≤1048576) (e:Ex):EOk e→Knw p.vars e→∀ (r:Option (List Rng)) (h:Hp),Sx h sb lb p r →
  ACalls (En G) 40 [.ptr sb 0 0,.agg (CW e)] h (SP sb lb p h (r.bind (XN p.vars e))):=by
 induction e using Ex.induct with | h e ih => ?_
 intro he hkn r h n
 have hnode:=he.n e (by rw [pre_eq]; simp)
 obtain ⟨a1,a25,ar1,ar3,arI,ar2⟩:=YH hnode
 have hal:e.args.length≤1048576:=by have:=he.w; have:=PX e; have:=WB e.args; omega
 refine acN Tryz.func40 rfl ?_
 show awp _ _ _ _ _ (EN _ [] _)
 have g3:=DF h (ABlk.live 4 [CW e])
 have n1:=n.ext ((ext.rfl' h).app [ABlk.live 4 [CW e]])
 have k1:=(Kp.rfl' sb lb h).app (ABlk.live 4 [CW e])
 have o3:=n.lt (jQ h.length)
 simp -implicitDefEqProofs only [BB,A8,A7,AZ,BA,AO,AQ,AL,BD,AY,AC,AA,AX,BJ,FQ,BO,BG,CB,AB,BF,BQ,↓reduceIte,jA,jG,jB,jC,enP,UQ,EM,EW,bxE]
 generalize h ++ [ABlk.live 4 [CW e]]=H at g3 n1 k1 ⊢
 generalize h.length=b3 at g3 o3 ⊢
 have qE:=G6 g3
 have q0:DR Tryz.prog H 3 (.ptr b3 0 0)=some (.int .i64 e.op):=by rw [DJ ag3 g3 (row:=CW e) rfl,JC]
 have q2:DR Tryz.prog H 9 (.ptr b3 0 2)=some (.str e.name):=by rw [DJ ag9 g3 (row:=CW e) rfl,OB]
 have q3:DR Tryz.prog H 23 (.ptr b3 0 3)=some (.sl e.m 4 (e.args.map CW)):=by rw [DJ NM g3 (row:=CW e) rfl,NE]
 have gd : ∀ (k:Nat) (hk:k < e.args.length),e.args.getD k ex0=e.args[k]:=fun k hk=>by rw [zF,jU hk]; rfl
 rcases n1.some' with ⟨L,cur,s1,_,_,rfl⟩ | ⟨L,l,s1,hL,hNL,hll,rfl,hw⟩
 ·simp -implicitDefEqProofs only [BK,BI,A7,CJ,ZW,DI,BA,AC,AA,AX,AB,↓reduceIte,AAJ s1]
  exact ⟨n1,k1⟩
 have hb':(some l).bind (XN p.vars e)=AHU p.vars e.op e.name e.args (P7 p.vars e.args) l:=by rw [AMC]; rfl
 rw [hb']
 simp -implicitDefEqProofs only [BB,CE,A8,BR,BI,A7,DN,AZ,BA,AO,AQ,AL,BD,AY,AC,AA,AX,AU,BH,BC,BO,BU,BG,AB,CX,↓reduceIte,jA,jH,jB,jC,enP,FU,AAJ s1,q0]
 unfold AHU
 by_cases h2:e.op=2
 ·have c2:(e.op == 2)=true:=by simpa using h2
  rw [if_pos h2]
  have hp:=hkn e (by rw [pre_eq]; simp) h2
  have hr:=P9 (JB e.name) p.vars
  have hpe:plc p.vars e.name=KQ (JB e.name) p.vars:=rfl
  obtain ⟨i,hi⟩:=zI hp
  simp -implicitDefEqProofs only [DI,c2]
  refine JI 8 _ (by kernel_rfl) rfl rfl ?_
  simp only [zT,zC]
  simp -implicitDefEqProofs only [ET,DK,CY,D7,DL,EH,EC,C9,EI,EE,AO,AA,AX,AU,BN,BH,BO,BG,BV,BP,AB,BF,jF,jD,jE,↓reduceIte,jA,jL,jH,jG,jB,enP,KF,ACQ,EM,FZ,EW,ABU s1,q2]
  refine ⟨_,ZO G p hs e.name H,?_⟩
  simp -implicitDefEqProofs only [hi,zG]
  refine ACalls.mono (QW G sb lb p (some l) i (by omega) 1 65535 H n1) ?_
  rintro v H' qq
  simp -implicitDefEqProofs only [EO,G9,TR]
  exact SP.post k1 qq
 have c2:(e.op == 2)=false:=by simpa using h2
 rw [if_neg h2]
 by_cases h4:e.op=4
 ·have c4:(e.op == 4)=true:=by simpa using h4
  rw [if_pos h4]
  have hl:=ar1 (.inl h4)
  have x0:0 < e.args.length:=by omega
  have m0:e.args[0]∈e.args:=jT x0
  have i0 : ∀ H:Hp,I4 4 H (.sl e.m 4 (e.args.map CW)) (.int .i64 0)=some (.fptr 4 (e.args.map CW) 0 0):=fun H=>EX (n:=0) x0
  have d0 : ∀ H:Hp,DR Tryz.prog H 40 (.fptr 4 (e.args.map CW) 0 0)=some (.agg (CW e.args[0])):=fun H=>EU KJ JR ES x0
  rw [gd 0 x0]
  unfold atO
  simp -implicitDefEqProofs only [BB,A8,BI,A7,DI,DN,AZ,BA,AO,AQ,AL,BD,AY,AC,AA,AX,AU,BN,BH,BJ,BC,BO,BU,BG,CG,BV,BP,AB,CX,BF,jF,jD,jE,↓reduceIte,jA,jG,jB,jC,enP,LQ,IJ,c2,c4,q3,i0,d0]
  refine (PS G sb lb p hs (some l) e.args[0] H n1).use ?_
  simp -implicitDefEqProofs only [BB,A8,BI,A7,AZ,BA,AO,AQ,AL,BD,AY,AC,AA,AX,AU,BH,BJ,BC,BU,AB,FV,↓reduceIte,jB,jC,enP]
  have hra:=QG p.vars e.args[0]
  refine CQ (fun hd => ?_) (fun hd => ?_)
  ·have hd:(0:Int)≤vix p.vars e.args[0]:=by simpa using hd
   rw [if_pos hd]
   obtain ⟨i,hi⟩:=zI hd
   rw [hi,zG]
   simp -implicitDefEqProofs only [A8,AZ,AO,AQ,AL,BD,AY,AC,AA,AX,AU,BN,BH,BJ,BV,BP,BF,jF,jD,jE,↓reduceIte,jA,jB,jC,hi]
   refine ACalls.mono (QW G sb lb p (some l) i (by omega) 0 0 H n1) ?_
   rintro v H' qq
   simp -implicitDefEqProofs only [EO,G9,BA,AC]
   exact SP.post k1 qq
  ·have hd : ¬ (0:Int)≤vix p.vars e.args[0]:=by simpa using hd
   rw [if_neg hd]
   simp -implicitDefEqProofs only [BR,EO,G9]
   exact ⟨n1,k1⟩
 have c4:(e.op == 4)=false:=by simpa using h4
 rw [if_neg h4]
 by_cases h19:e.op=19
 ·have c19:(e.op == 19)=true:=by simpa using h19
  rw [if_pos h19]
  have hl:=ar2 (by omega) (by omega)
  have x0:0 < e.args.length:=by omega
  have m0:e.args[0]∈e.args:=jT x0
  have i0 : ∀ H:Hp,I4 4 H (.sl e.m 4 (e.args.map CW)) (.int .i64 0)=some (.fptr 4 (e.args.map CW) 0 0):=fun H=>EX (n:=0) x0
  have d0 : ∀ H:Hp,DR Tryz.prog H 40 (.fptr 4 (e.args.map CW) 0 0)=some (.agg (CW e.args[0])):=fun H=>EU KJ JR ES x0
  have x1:1 < e.args.length:=by omega
  have m1:e.args[1]∈e.args:=jT x1
  have i1 : ∀ H:Hp,I4 4 H (.sl e.m 4 (e.args.map CW)) (.int .i64 1)=some (.fptr 4 (e.args.map CW) 1 0):=fun H=>EX (n:=1) x1
  have d1 : ∀ H:Hp,DR Tryz.prog H 40 (.fptr 4 (e.args.map CW) 1 0)=some (.agg (CW e.args[1])):=fun H=>EU KJ JR ES x1
  have hargs:e.args = [e.args[0],e.args[1]]:=by
   apply List.ext_getElem
   ·rw [hl]; rfl
   ·intro k k1 k2
    match k,k2 with
    | 0,_=>rfl
    | 1,_=>rfl
  have hrec:P7 p.vars e.args l=(XN p.vars e.args[0] l).bind (XN p.vars e.args[1]):=by
   have h1:P7 p.vars [e.args[0],e.args[1]] l=(XN p.vars e.args[0] l).bind fun l=>(XN p.vars e.args[1] l).bind fun l=>some l:=rfl
   have h2:(fun l=>(XN p.vars e.args[1] l).bind fun l=>some l)=XN p.vars e.args[1]:=by funext l; simp
   rw [← h2,← h1,← hargs]
  rw [hrec]
  simp -implicitDefEqProofs only [BB,A8,BI,A7,DI,DN,AZ,BA,AO,AQ,AL,BD,AY,AC,AA,AX,AU,BN,BH,BJ,BC,BO,BU,BG,CG,BV,BP,AB,CX,BF,jF,jD,jE,↓reduceIte,jA,jG,jB,jC,enP,LQ,IJ,c2,c4,c19,q3,i0,d0]
  refine ACalls.mono (ih e.args[0] m0 (he.arg m0) (hkn.arg m0) (some l) H n1) ?_
  rintro v H2 ⟨n2,k2⟩
  have g3':=k2.1 _ _ g3 o3.1 o3.2
  have q3':DR Tryz.prog H2 23 (.ptr b3 0 3)=some (.sl e.m 4 (e.args.map CW)):=by rw [DJ NM g3' (row:=CW e) rfl,NE]
  simp -implicitDefEqProofs only [A8,A7,AZ,BA,AO,AQ,AL,BD,AY,AC,AA,AX,AU,BN,BH,BJ,BO,BG,CG,BV,BP,AB,BF,jF,jD,jE,↓reduceIte,jA,jG,jB,jC,enP,LQ,IJ,q3',i1,d1]
  refine ACalls.mono (ih e.args[1] m1 (he.arg m1) (hkn.arg m1) _ H2 n2) ?_
  rintro v H3 qq
  simp -implicitDefEqProofs only [EO,G9,BA,AC]
  exact SP.post (k1.trans k2) qq
 have c19:(e.op == 19)=false:=by simpa using h19
 rw [if_neg h19]
 have cmp : ∀ (hop:e.op=15∨e.op=16∨e.op=17∨e.op=18) (F:Fr),F 0 = .ptr sb 0 0→F 3 = .ptr b3 0 0→True:=fun _ _ _ _=>trivial
 clear cmp
 by_cases hop:e.op=15∨e.op=16∨e.op=17∨e.op=18
 ·rw [if_pos hop]
  have hl:=ar2 (by omega) (by omega)
  have x0:0 < e.args.length:=by omega
  have m0:e.args[0]∈e.args:=jT x0
  have i0 : ∀ H:Hp,I4 4 H (.sl e.m 4 (e.args.map CW)) (.int .i64 0)=some (.fptr 4 (e.args.map CW) 0 0):=fun H=>EX (n:=0) x0
  have d0 : ∀ H:Hp,DR Tryz.prog H 40 (.fptr 4 (e.args.map CW) 0 0)=some (.agg (CW e.args[0])):=fun H=>EU KJ JR ES x0
  have x1:1 < e.args.length:=by omega
  have m1:e.args[1]∈e.args:=jT x1
  have i1 : ∀ H:Hp,I4 4 H (.sl e.m 4 (e.args.map CW)) (.int .i64 1)=some (.fptr 4 (e.args.map CW) 1 0):=fun H=>EX (n:=1) x1
  have d1 : ∀ H:Hp,DR Tryz.prog H 40 (.fptr 4 (e.args.map CW) 1 0)=some (.agg (CW e.args[1])):=fun H=>EU KJ JR ES x1
  rw [gd 0 x0,gd 1 x1]
  have hra:=QG p.vars e.args[0]
  have hrb:=QG p.vars e.args[1]
  have hcm:AYF p.vars e.op e.args[0] e.args[1] l=((some l).bind (XL p.vars e.op (vix p.vars e.args[0]) e.args[1] false)).bind (XL p.vars e.op (vix p.vars e.args[1]) e.args[0] true):=rfl
  rw [hcm]
  by_cases hk:e.op=15
  ·simp -implicitDefEqProofs only [BB,A8,BR,BI,A7,DI,DN,AZ,BA,AO,AQ,AL,BD,AY,AC,AA,AX,AU,BH,BC,BU,AB,CX,↓reduceIte,jA,jB,jC,enP,c2,c4,c19,(show (e.op == 15)=true by rw [hk]; rfl)]
   refine JI 13 _ (by kernel_rfl) rfl rfl ?_
   simp only [zT,zC]
   simp -implicitDefEqProofs only [ET,DK,CY,D7,DL,EH,EC,C9,D9,EI,EE,AO,AA,AX,AU,BN,BH,BM,BO,BG,CG,BV,BP,AB,BF,jF,jD,jE,↓reduceIte,jA,jL,jH,jG,jB,enP,LQ,FU,IJ,q0,q3,i0,d0,i1,d1]
   refine ⟨_,PS G sb lb p hs (some l) e.args[0] H n1,?_⟩
   try simp -implicitDefEqProofs only [q0,q3,i0,d0,i1,d1]
   refine ACalls.mono (N8 G sb lb p hs hpl (some l) e.op (vix p.vars e.args[0]) hra e.args[1] (he.arg m1) false H n1) ?_
   rintro v H2 ⟨n2,k2⟩
   try simp -implicitDefEqProofs only [A7,TR]
   have g3':=k2.1 _ _ g3 o3.1 o3.2
   have q0':DR Tryz.prog H2 3 (.ptr b3 0 0)=some (.int .i64 e.op):=by rw [DJ ag3 g3' (row:=CW e) rfl,JC]
   have q3':DR Tryz.prog H2 23 (.ptr b3 0 3)=some (.sl e.m 4 (e.args.map CW)):=by rw [DJ NM g3' (row:=CW e) rfl,NE]
   refine JI 13 _ (by kernel_rfl) rfl rfl ?_
   simp only [zT,zC]
   simp -implicitDefEqProofs only [ET,DK,CY,D7,DL,EH,EC,C9,D9,EI,EE,AO,AA,AX,AU,BN,BH,BM,BO,BG,CG,BV,BP,AB,BF,jF,jD,jE,↓reduceIte,jA,jL,jH,jG,jB,enP,LQ,FU,IJ,q0',q3',i0,d0,i1,d1]
   refine ⟨_,PS G sb lb p hs _ e.args[1] H2 n2,?_⟩
   try simp -implicitDefEqProofs only [q0',q3',i0,d0,i1,d1]
   refine ACalls.mono (N8 G sb lb p hs hpl _ e.op (vix p.vars e.args[1]) hrb e.args[0] (he.arg m0) true H2 n2) ?_
   rintro v H3 qq
   simp -implicitDefEqProofs only [EO,G9,TR]
   exact SP.post (k1.trans k2) qq
  by_cases hk:e.op=16
  ·simp -implicitDefEqProofs only [BB,A8,BR,BI,A7,DI,DN,AZ,BA,AO,AQ,AL,BD,AY,AC,AA,AX,AU,BH,BC,BU,AB,CX,↓reduceIte,jA,jB,jC,enP,c2,c4,c19,(show (e.op == 15)=false by rw [hk]; rfl),(show (e.op == 16)=true by rw [hk]; rfl)]
   refine JI 13 _ (by kernel_rfl) rfl rfl ?_
   simp only [zT,zC]
   simp -implicitDefEqProofs only [ET,DK,CY,D7,DL,EH,EC,C9,D9,EI,EE,AO,AA,AX,AU,BN,BH,BM,BO,BG,CG,BV,BP,AB,BF,jF,jD,jE,↓reduceIte,jA,jL,jH,jG,jB,enP,LQ,FU,IJ,q0,q3,i0,d0,i1,d1]
   refine ⟨_,PS G sb lb p hs (some l) e.args[0] H n1,?_⟩
   try simp -implicitDefEqProofs only [q0,q3,i0,d0,i1,d1]
   refine ACalls.mono (N8 G sb lb p hs hpl (some l) e.op (vix p.vars e.args[0]) hra e.args[1] (he.arg m1) false H n1) ?_
   rintro v H2 ⟨n2,k2⟩
   try simp -implicitDefEqProofs only [A7,TR]
   have g3':=k2.1 _ _ g3 o3.1 o3.2
   have q0':DR Tryz.prog H2 3 (.ptr b3 0 0)=some (.int .i64 e.op):=by rw [DJ ag3 g3' (row:=CW e) rfl,JC]
   have q3':DR Tryz.prog H2 23 (.ptr b3 0 3)=some (.sl e.m 4 (e.args.map CW)):=by rw [DJ NM g3' (row:=CW e) rfl,NE]
   refine JI 13 _ (by kernel_rfl) rfl rfl ?_
   simp only [zT,zC]
   simp -implicitDefEqProofs only [ET,DK,CY,D7,DL,EH,EC,C9,D9,EI,EE,AO,AA,AX,AU,BN,BH,BM,BO,BG,CG,BV,BP,AB,BF,jF,jD,jE,↓reduceIte,jA,jL,jH,jG,jB,enP,LQ,FU,IJ,q0',q3',i0,d0,i1,d1]
   refine ⟨_,PS G sb lb p hs _ e.args[1] H2 n2,?_⟩
   try simp -implicitDefEqProofs only [q0',q3',i0,d0,i1,d1]
   refine ACalls.mono (N8 G sb lb p hs hpl _ e.op (vix p.vars e.args[1]) hrb e.args[0] (he.arg m0) true H2 n2) ?_
   rintro v H3 qq
   simp -implicitDefEqProofs only [EO,G9,TR]
   exact SP.post (k1.trans k2) qq
  by_cases hk:e.op=17
  ·simp -implicitDefEqProofs only [BB,A8,BR,BI,A7,DI,DN,AZ,BA,AO,AQ,AL,BD,AY,AC,AA,AX,AU,BH,BC,BU,AB,CX,↓reduceIte,jA,jB,jC,enP,c2,c4,c19,(show (e.op == 15)=false by rw [hk]; rfl),(show (e.op == 16)=false by rw [hk]; rfl),(show (e.op == 17)=true by rw [hk]; rfl)]
   refine JI 13 _ (by kernel_rfl) rfl rfl ?_
   simp only [zT,zC]
   simp -implicitDefEqProofs only [ET,DK,CY,D7,DL,EH,EC,C9,D9,EI,EE,AO,AA,AX,AU,BN,BH,BM,BO,BG,CG,BV,BP,AB,BF,jF,jD,jE,↓reduceIte,jA,jL,jH,jG,jB,enP,LQ,FU,IJ,q0,q3,i0,d0,i1,d1]
   refine ⟨_,PS G sb lb p hs (some l) e.args[0] H n1,?_⟩
   try simp -implicitDefEqProofs only [q0,q3,i0,d0,i1,d1]
   refine ACalls.mono (N8 G sb lb p hs hpl (some l) e.op (vix p.vars e.args[0]) hra e.args[1] (he.arg m1) false H n1) ?_
   rintro v H2 ⟨n2,k2⟩
   try simp -implicitDefEqProofs only [A7,TR]
   have g3':=k2.1 _ _ g3 o3.1 o3.2
   have q0':DR Tryz.prog H2 3 (.ptr b3 0 0)=some (.int .i64 e.op):=by rw [DJ ag3 g3' (row:=CW e) rfl,JC]
   have q3':DR Tryz.prog H2 23 (.ptr b3 0 3)=some (.sl e.m 4 (e.args.map CW)):=by rw [DJ NM g3' (row:=CW e) rfl,NE]
   refine JI 13 _ (by kernel_rfl) rfl rfl ?_
   simp only [zT,zC]
   simp -implicitDefEqProofs only [ET,DK,CY,D7,DL,EH,EC,C9,D9,EI,EE,AO,AA,AX,AU,BN,BH,BM,BO,BG,CG,BV,BP,AB,BF,jF,jD,jE,↓reduceIte,jA,jL,jH,jG,jB,enP,LQ,FU,IJ,q0',q3',i0,d0,i1,d1]
   refine ⟨_,PS G sb lb p hs _ e.args[1] H2 n2,?_⟩
   try simp -implicitDefEqProofs only [q0',q3',i0,d0,i1,d1]
   refine ACalls.mono (N8 G sb lb p hs hpl _ e.op (vix p.vars e.args[1]) hrb e.args[0] (he.arg m0) true H2 n2) ?_
   rintro v H3 qq
   simp -implicitDefEqProofs only [EO,G9,TR]
   exact SP.post (k1.trans k2) qq
  by_cases hk:e.op=18
  ·simp -implicitDefEqProofs only [BB,A8,BI,A7,DI,DN,AZ,BA,AO,AQ,AL,BD,AY,AC,AA,AX,AU,BH,BC,BU,AB,CX,↓reduceIte,jA,jB,jC,enP,c2,c4,c19,(show (e.op == 15)=false by rw [hk]; rfl),(show (e.op == 16)=false by rw [hk]; rfl),(show (e.op == 17)=false by rw [hk]; rfl),(show (e.op == 18)=true by rw [hk]; rfl)]
   refine JI 13 _ (by kernel_rfl) rfl rfl ?_
   simp only [zT,zC]
   simp -implicitDefEqProofs only [ET,DK,CY,D7,DL,EH,EC,C9,D9,EI,EE,AO,AA,AX,AU,BN,BH,BM,BO,BG,CG,BV,BP,AB,BF,jF,jD,jE,↓reduceIte,jA,jL,jH,jG,jB,enP,LQ,FU,IJ,q0,q3,i0,d0,i1,d1]
   refine ⟨_,PS G sb lb p hs (some l) e.args[0] H n1,?_⟩
   try simp -implicitDefEqProofs only [q0,q3,i0,d0,i1,d1]
   refine ACalls.mono (N8 G sb lb p hs hpl (some l) e.op (vix p.vars e.args[0]) hra e.args[1] (he.arg m1) false H n1) ?_
   rintro v H2 ⟨n2,k2⟩
   try simp -implicitDefEqProofs only [A7,TR]
   have g3':=k2.1 _ _ g3 o3.1 o3.2
   have q0':DR Tryz.prog H2 3 (.ptr b3 0 0)=some (.int .i64 e.op):=by rw [DJ ag3 g3' (row:=CW e) rfl,JC]
   have q3':DR Tryz.prog H2 23 (.ptr b3 0 3)=some (.sl e.m 4 (e.args.map CW)):=by rw [DJ NM g3' (row:=CW e) rfl,NE]
   refine JI 13 _ (by kernel_rfl) rfl rfl ?_
   simp only [zT,zC]
   simp -implicitDefEqProofs only [ET,DK,CY,D7,DL,EH,EC,C9,D9,EI,EE,AO,AA,AX,AU,BN,BH,BM,BO,BG,CG,BV,BP,AB,BF,jF,jD,jE,↓reduceIte,jA,jL,jH,jG,jB,enP,LQ,FU,IJ,q0',q3',i0,d0,i1,d1]
   refine ⟨_,PS G sb lb p hs _ e.args[1] H2 n2,?_⟩
   try simp -implicitDefEqProofs only [q0',q3',i0,d0,i1,d1]
   refine ACalls.mono (N8 G sb lb p hs hpl _ e.op (vix p.vars e.args[1]) hrb e.args[0] (he.arg m0) true H2 n2) ?_
   rintro v H3 qq
   simp -implicitDefEqProofs only [EO,G9,TR]
   exact SP.post (k1.trans k2) qq
  exact absurd hop (by omega)
 rw [if_neg hop]
 have c15:(e.op == 15)=false:=by simp; omega
 have c16:(e.op == 16)=false:=by simp; omega
 have c17:(e.op == 17)=false:=by simp; omega
 have c18:(e.op == 18)=false:=by simp; omega
 by_cases h23:e.op=23
 ·have c23:(e.op == 23)=true:=by simpa using h23
  rw [if_pos h23]
  have hl:=arI h23
  have x0:0 < e.args.length:=by omega
  have m0:e.args[0]∈e.args:=jT x0
  have i0 : ∀ H:Hp,I4 4 H (.sl e.m 4 (e.args.map CW)) (.int .i64 0)=some (.fptr 4 (e.args.map CW) 0 0):=fun H=>EX (n:=0) x0
  have d0 : ∀ H:Hp,DR Tryz.prog H 40 (.fptr 4 (e.args.map CW) 0 0)=some (.agg (CW e.args[0])):=fun H=>EU KJ JR ES x0
  rw [gd 0 x0]
  unfold atO
  simp -implicitDefEqProofs only [BB,A8,BI,A7,DI,DN,AZ,BA,AO,AQ,AL,BD,AY,AC,AA,AX,AU,BN,BH,BJ,BC,BO,BU,BG,CG,BV,BP,AB,CX,BF,jF,jD,jE,↓reduceIte,jA,jG,jB,jC,enP,LQ,IJ,c2,c4,c19,c15,c16,c17,c18,c23,q3,i0,d0]
  refine (PS G sb lb p hs (some l) e.args[0] H n1).use ?_
  simp -implicitDefEqProofs only [BB,A8,BI,A7,AZ,BA,AO,AQ,AL,BD,AY,AC,AA,AX,AU,BH,BJ,BC,BU,AB,FV,↓reduceIte,jB,jC,enP]
  have hra:=QG p.vars e.args[0]
  refine CQ (fun hd => ?_) (fun hd => ?_)
  ·have hd:(0:Int)≤vix p.vars e.args[0]:=by simpa using hd
   rw [if_pos hd]
   obtain ⟨i,hi⟩:=zI hd
   rw [hi,zG]
   simp -implicitDefEqProofs only [A8,AZ,AO,AQ,AL,BD,AY,AC,AA,AX,BN,BJ,BO,BV,BP,AB,BF,jF,jD,jE,↓reduceIte,jA,jB,jC,enP,hi,qE]
   refine ACalls.mono (AJ6 G sb lb p hs hpl l i (by omega) e (fun a ha=>he.arg ha) hal H n1) ?_
   rintro v H' qq
   simp -implicitDefEqProofs only [EO,G9,BA,AC]
   exact SP.post k1 qq
  ·have hd : ¬ (0:Int)≤vix p.vars e.args[0]:=by simpa using hd
   rw [if_neg hd]
   simp -implicitDefEqProofs only [BR,EO,G9]
   exact ⟨n1,k1⟩
 have c23:(e.op == 23)=false:=by simpa using h23
 rw [if_neg h23]
 simp -implicitDefEqProofs only [BB,A8,BR,BI,A7,EO,G9,DN,AZ,BA,AO,AQ,AL,BD,AY,AC,AA,AX,AU,BH,BC,BU,AB,CX,↓reduceIte,jA,jB,jC,enP,c2,c4,c19,c15,c16,c17,c18,c23]
 exact ⟨n1,k1⟩
end
theorem TI {vars:List Vr} {a:Ex} {f:NS→Nat→Option NS} {g:List Rng→Nat→Option (List Rng)} {s:NS} (hf : ∀ i,(f s i).map Prod.fst=g s.1 i):(atV vars a f s).map Prod.fst=atO vars a g s.1:=by
 unfold atV atO
 by_cases h:0≤vix vars a
 ·rw [if_pos h,if_pos h]; exact hf _
 ·rw [if_neg h,if_neg h]; rfl
theorem OC {x:Option NS} {y:Option (List Rng)} {f:NS→Option NS} {g:List Rng→Option (List Rng)} (h:x.map Prod.fst=y) (hf : ∀ s,x=some s→(f s).map Prod.fst=g s.1):(x.bind f).map Prod.fst=y.bind g:=by
 subst h
 cases x with
 | none=>rfl
 | some s=>exact hf s rfl
theorem AP5 (vars:List Vr) (op:Int) (a b:Ex) (tn:Bool) (l:List Rng):XL vars op (vix vars a) b tn l=atO vars a (fun l i=>if op=15 then OM l i (evS vars l b).lo (evS vars l b).hi else if op=16 then AOL l i (evS vars l b) else if tn=true then OM l i ((evS vars l b).lo+OA op) 65535 else OM l i 0 ((evS vars l b).hi - OA op)) l:=by
 unfold XL atO
 by_cases h:0≤vix vars a
 ·rw [if_pos h,if_neg (by omega)]
 ·rw [if_neg h,if_pos (by omega)]
theorem AML (s:NS) (i:Nat) (r:Rng):(fne s i r).map Prod.fst=AOL s.1 i r:=by
 unfold fne AOL
 cases hs:sgl r
 ·rw [if_neg (by decide)]; rfl
 ·rw [if_pos rfl]
  refine OC ?_ (fun s _ => ?_)
  ·by_cases q:(s.1.getD i GV).lo=r.lo
   ·rw [if_pos q,if_pos (by rw [q]; simp)]; exact O8 s _ _ _
   ·rw [if_neg q,if_neg (by simpa using Ne.symm q)]; rfl
  ·by_cases q:(s.1.getD i GV).hi=r.lo
   ·rw [if_pos q,if_pos (by rw [q]; simp)]; exact O8 s _ _ _
   ·rw [if_neg q,if_neg (by simpa using Ne.symm q)]; rfl
theorem AMD : ∀ (xs:List Rng),(∀ x∈xs,wfR x)→∀ (p:Int × Int) (t:Int × Int × Bool),(if t.2.2=true then p=(t.1,t.2.1)∧p.1≤65535∧0≤p.2 else p=(65536,-1)∧t.1=65535∧t.2.1=0) →
  if (memT xs t).2.2=true then AB9 xs p=((memT xs t).1,(memT xs t).2.1) else AB9 xs p=(65536,-1)
 | [],_,p,t,h=>by
   show if t.2.2=true then p=(t.1,t.2.1) else p=(65536,-1)
   split at h
   ·rename_i q; rw [if_pos q]; exact h.1
   ·rename_i q; rw [if_neg q]; exact h.1
 | [_],_,p,t,h=>by
   show if t.2.2=true then p=(t.1,t.2.1) else p=(65536,-1)
   split at h
   ·rename_i q; rw [if_pos q]; exact h.1
   ·rename_i q; rw [if_neg q]; exact h.1
 | a :: b :: r,hw,p,t,h=>by
   obtain ⟨a0,a1,a2⟩:=hw a (by simp)
   obtain ⟨b0,b1,b2⟩:=hw b (by simp)
   refine AMD r (fun x hx=>hw x (by simp [hx])) (if a.lo≤b.hi then (min p.1 a.lo,max p.2 b.hi) else p) (if a.lo≤b.hi then (min t.1 a.lo,max t.2.1 b.hi,true) else t) ?_
   by_cases q:a.lo≤b.hi
   ·rw [if_pos q,if_pos q]
    show if true=true then _ else _
    rw [if_pos rfl]
    show ((min p.1 a.lo,max p.2 b.hi):Int × Int)=(min t.1 a.lo,max t.2.1 b.hi)∧min p.1 a.lo≤65535∧0≤max p.2 b.hi
    split at h
    ·obtain ⟨rfl,h2,h3⟩:=h
     exact ⟨rfl,by omega,by omega⟩
    ·obtain ⟨rfl,h2,h3⟩:=h
     rw [h2,h3]
     refine ⟨?_,by show min (65536:Int) a.lo≤65535; omega,by show 0≤max (-1:Int) b.hi; omega⟩
     rw [Prod.mk.injEq]
     exact ⟨by show min (65536:Int) a.lo=_; omega,by show max (-1:Int) b.hi=_; omega⟩
   ·rw [if_neg q,if_neg q]; exact h
theorem AFT (s:NS) (i:Nat) {lo hi:Int} (h1:0≤lo) (h2:hi < 0):NI s i lo hi=none:=by
 unfold NI
 have e1:(nxR (s.1.getD i GV) lo hi).lo=max (s.1.getD i GV).lo lo:=rfl
 have e2:(nxR (s.1.getD i GV) lo hi).hi=min (s.1.getD i GV).hi hi:=rfl
 rw [if_pos (by omega)]
theorem mem_map (vars:List Vr) (s:NS) (i:Nat) (args:List Ex) (hw : ∀ x∈MQ vars s.1 args,wfR x):(AN0 vars s i (args.drop 1)).map Prod.fst=AN1 vars i args s.1:=by
 have hd:MQ vars s.1 (args.drop 1)=(MQ vars s.1 args).drop 1:=by rw [J6,J6,List.map_drop]
 have:=AMD ((MQ vars s.1 args).drop 1) (fun x hx=>hw x (List.mem_of_mem_drop hx)) (65536,-1) (65535,0,false) (by simp)
 unfold AN0 AN1
 rw [hd]
 split at this
 ·rename_i q
  rw [if_pos q,this]
  exact O8 s _ _ _
 ·rename_i q
  rw [if_neg q,this,AFT s i (by decide) (by decide)]; rfl
theorem ALU : ∀ (ws:List Wg),(∀ w∈ws,U1 w=false)→∀ (p q:Int × Int),(p=q∧p.1≤65535)∨(p=(65536,-1)∧q=(65535,-1))→ws.foldl ZC p=ws.foldl ZC q∨(ws.foldl ZC p=(65536,-1)∧ws.foldl ZC q=(65535,-1))
 | [],_,p,q,h=>by
   rcases h with h | h
   ·exact .inl h.1
   ·exact .inr h
 | w :: ws,hw,p,q,h=>by
   obtain ⟨w0,w1,w2⟩:=AM5 (hw w (by simp))
   refine ALU ws (fun x hx=>hw x (by simp [hx])) (ZC p w) (ZC q w) ?_
   unfold ZC
   by_cases c:w.w > 0
   ·rw [if_pos c,if_pos c]
    rcases h with ⟨rfl,h⟩ | ⟨rfl,rfl⟩
    ·exact .inl ⟨rfl,by show min p.1 w.lo≤65535; omega⟩
    ·refine .inl ⟨?_,by show min (65536:Int) w.lo≤65535; omega⟩
     rw [Prod.mk.injEq]
     exact ⟨by show min (65536:Int) w.lo=min (65535:Int) w.lo; omega,rfl⟩
   ·rw [if_neg c,if_neg c]; exact h
theorem ATB (s:NS) (d:Ds) (hw : ∀ w∈d.ws,U1 w=false):(VB s d).map Prod.fst=AGW d s.1:=by
 unfold VB AGW
 rcases ALU d.ws hw (65536,-1) (65535,-1) (.inr ⟨rfl,rfl⟩) with h | ⟨h1,h2⟩
 ·have e:RD d.ws=ZB d.ws:=h
  rw [e]; exact O8 s _ _ _
 ·have e1:RD d.ws=(65536,-1):=h1
  have e2:ZB d.ws=(65535,-1):=h2
  rw [e1,e2,← O8 s,AFT s _ (by decide) (by decide),AFT s _ (by decide) (by decide)]
theorem AUC (vars:List Vr) (e:Ex):EOk e→Knw vars e→∀ s:NS,s.1.length=vars.length→(∀ r∈s.1,wfR r)→(TP vars e s).map Prod.fst=XN vars e s.1:=by
 induction e using Ex.induct with | h e ih => ?_
 intro he hk s hl hw
 rw [AFP,AMC]
 have hnode:=he.n e (by rw [pre_eq]; simp)
 obtain ⟨a1,a25,ar1,ar3,arI,ar2⟩:=YH hnode
 unfold AQG AHU
 by_cases h2:e.op=2
 ·rw [if_pos ⟨h2,hk e (by rw [pre_eq]; simp) h2⟩,if_pos h2]; exact O8 s _ _ _
 rw [if_neg (fun q=>h2 q.1),if_neg h2]
 by_cases h4:e.op=4
 ·rw [if_pos h4,if_pos h4]; exact TI fun i=>O8 s _ _ _
 rw [if_neg h4,if_neg h4]
 by_cases h19:e.op=19
 ·rw [if_pos h19,if_pos h19]
  have key : ∀ (xs:List Ex),(∀ a∈xs,a∈e.args)→∀ s:NS,s.1.length=vars.length→(∀ r∈s.1,wfR r)→(QU vars xs s).map Prod.fst=P7 vars xs s.1:=by
   intro xs
   induction xs with
   | nil=>intro _ s _ _; rfl
   | cons x xs ihx =>
     intro hm s hl hw
     show ((TP vars x s).bind (QU vars xs)).map Prod.fst=(XN vars x s.1).bind (P7 vars xs)
     refine OC (ih x (hm x (by simp)) (he.arg (hm x (by simp))) (hk.arg (hm x (by simp))) s hl hw) (fun t ht => ?_)
     have st:=AFO vars x s t hl ht
     exact ihx (fun a ha=>hm a (by simp [ha])) t (by rw [st.len]; exact hl) (st.wf hw)
  exact key e.args (fun a h=>h) s hl hw
 rw [if_neg h19,if_neg h19]
 by_cases hop:e.op=15∨e.op=16∨e.op=17∨e.op=18
 ·rw [if_pos hop]
  unfold AYF
  have e2 : ∀ l,XL vars e.op (vix vars (e.args.getD 1 ex0)) (e.args.getD 0 ex0) true l=_:=fun l=>AP5 vars e.op (e.args.getD 1 ex0) (e.args.getD 0 ex0) true l
  rw [AP5]
  rcases hop with q | q | q | q
  ·rw [if_pos q]
   unfold YX
   refine OC (TI fun i => ?_) (fun t ht => ?_)
   ·rw [if_pos q]; exact O8 s _ _ _
   ·rw [e2]
    refine TI fun i => ?_
    rw [if_pos q]; exact O8 t _ _ _
  ·rw [if_neg (by omega),if_pos q]
   unfold YX
   refine OC (TI fun i => ?_) (fun t ht => ?_)
   ·rw [if_neg (by omega),if_pos q]; exact AML s _ _
   ·rw [e2]
    refine TI fun i => ?_
    rw [if_neg (by omega),if_pos q]; exact AML t _ _
  ·rw [if_neg (by omega),if_neg (by omega),if_pos q]
   have hle:OA e.op=1:=by unfold OA; rw [if_pos q]
   unfold AFL
   refine OC (TI fun i => ?_) (fun t ht => ?_)
   ·rw [if_neg (by omega),if_neg (by omega),if_neg (by decide),hle]; exact O8 s _ _ _
   ·rw [e2]
    refine TI fun i => ?_
    rw [if_neg (by omega),if_neg (by omega),if_pos rfl,hle]; exact O8 t _ _ _
  ·rw [if_neg (by omega),if_neg (by omega),if_neg (by omega),if_pos q]
   have hle:OA e.op=0:=by unfold OA; rw [if_neg (by omega)]
   unfold AFL
   refine OC (TI fun i => ?_) (fun t ht => ?_)
   ·rw [if_neg (by omega),if_neg (by omega),if_neg (by decide),hle]; exact O8 s _ _ _
   ·rw [e2]
    refine TI fun i => ?_
    rw [if_neg (by omega),if_neg (by omega),if_pos rfl,hle]; exact O8 t _ _ _
 rw [if_neg hop,if_neg (by omega),if_neg (by omega),if_neg (by omega),if_neg (by omega)]
 by_cases h23:e.op=23
 ·rw [if_pos h23,if_pos h23]
  refine TI fun i=>mem_map vars s i e.args fun x hx => ?_
  rw [J6] at hx
  obtain ⟨a,ha,rfl⟩:=List.mem_map.1 hx
  exact X6 vars hw a (he.arg ha).n
 ·rw [if_neg h23,if_neg h23]; rfl
theorem AHT (vars:List Vr) : ∀ (xs:List Ex),(∀ e∈xs,EOk e∧Knw vars e)→∀ s:NS,s.1.length=vars.length→(∀ r∈s.1,wfR r)→(QU vars xs s).map Prod.fst=P7 vars xs s.1
 | [],_,_,_,_=>rfl
 | x :: xs,hk,s,hl,hw=>by
   show ((TP vars x s).bind (QU vars xs)).map Prod.fst=(XN vars x s.1).bind (P7 vars xs)
   refine OC (AUC vars x (hk x (by simp)).1 (hk x (by simp)).2 s hl hw) (fun t ht => ?_)
   have st:=AFO vars x s t hl ht
   exact AHT vars xs (fun e he=>hk e (by simp [he])) t (by rw [st.len]; exact hl) (st.wf hw)
def ARX:List Ds→List Rng→Option (List Rng)
 | []=>fun l=>some l
 | d :: ds=>fun l=>(AGW d l).bind (ARX ds)
theorem AMU : ∀ (ds:List Ds),(∀ d∈ds,∀ w∈d.ws,U1 w=false)→∀ s:NS,(UT ds s).map Prod.fst=ARX ds s.1
 | [],_,_=>rfl
 | d :: ds,hw,s=>by
   show ((VB s d).bind (UT ds)).map Prod.fst=(AGW d s.1).bind (ARX ds)
   exact OC (ATB s d (hw d (by simp))) (fun t _=>AMU ds (fun x hx=>hw x (by simp [hx])) t)
theorem LOk.aLen {h:Hp} {L:AV} {l:List Rng} (hl:LOk h L l):Sm.aLen Tryz.prog 29 L=some (.int .i64 (l.length:Nat)):=by
 unfold Sm.aLen
 rw [AG2]
 rcases hl with ⟨m,rfl⟩ | ⟨lb,rfl,hb⟩
 ·simp only [jR]
 ·rfl
theorem A2V {p:Pr} (h:KP p=0) : ∀ e∈p.hard,Knw p.vars e:=by
 intro e he x hx hop
 obtain ⟨_,h2,_,_⟩:=ZE h
 have:=PE h2 e (zX.2 (.inl he))
 unfold xpE at this
 by_cases q:exE e≠0
 ·rw [if_pos q] at this; exact absurd this q
 rw [if_neg q] at this
 unfold plE at this
 by_cases q1:AK6 e=true
 ·rw [if_pos q1] at this; cases this
 rw [if_neg q1] at this
 by_cases q2:AH8 p.vars e=true
 ·rw [if_pos q2] at this; cases this
 have q3:=List.any_eq_false.1 (show (pre e).any (U6 p.vars)=false by simpa [AH8] using q2) x hx
 unfold U6 at q3
 rw [hop] at q3
 simp at q3
 exact q3
section
variable (G:Nat→AV)
theorem ANN (a b:List Rng) (A B:AV) (ha:a.length≤1048576) (h:Hp) (hA:LOk h A a) (hB:LOk h B b):PCall (En G) 10 [A,B] h (.bool (a == b)):=by
 refine acN Tryz.func10 rfl ?_
 show awp _ _ _ _ _ (EN _ [.tmp 4] _)
 simp -implicitDefEqProofs only [BB,A8,BI,A7,AZ,BA,AO,AQ,AL,BD,AY,AC,AA,AX,AU,BM,BJ,BC,BU,FP,AB,FT,BF,BQ,↓reduceIte,jA,jB,jC,enX,enP,hA.aLen,hB.aLen]
 refine CQ (fun hc => ?_) (fun hc => ?_)
 ·have hc:a.length≠b.length:=by
   intro e; rw [e] at hc; simp at hc
  simp -implicitDefEqProofs only [BB,A8,BK,A7,CJ,CV,AZ,BA,AO,AQ,AL,BD,AY,AC,AA,AU,BM,BC,↓reduceIte,jB,jC]
  refine ⟨?_,trivial⟩
  have:(a == b)=false:=by
   rw [← qM,beq_iff_eq]; exact fun e=>hc (by rw [e])
  rw [this]
 have hc:a.length=b.length:=by
  have:((a.length:Nat):Int)=((b.length:Nat):Int):=by simpa using hc
  omega
 simp -implicitDefEqProofs only [BB,CE,A8,BR,A7,AZ,BA,AO,AQ,AL,BD,AY,AC,AU,BH,BC,jB,jC]
 refine IY 0 (fun F H=>H=h∧a=b) (fun F H=>F 4 = .bool (a == b)∧H=h) ?_ ?_ ?_
 ·refine EG (fun n' F H => ∃ i,n'+i=a.length∧F 0=A∧F 1=B∧F 5 = .int .i64 (i:Nat)∧H=h∧∀ j (h1:j < a.length) (h2:j < b.length),j < i→a[j]=b[j]) a.length ⟨0,by simp,by simp -implicitDefEqProofs only [AA,BF,↓reduceIte,jA],by simp -implicitDefEqProofs only [AA,BF,BQ,↓reduceIte,jA],by simp -implicitDefEqProofs only [AA,↓reduceIte]; rfl,rfl,by intro j _ _ h; omega⟩ ?_
  rintro n' F H ⟨i,hi,f0,f1,f5,rfl,he⟩
  simp -implicitDefEqProofs only [BB,A8,BI,A7,AZ,BA,AO,AQ,AL,BD,AY,AC,AA,AX,BJ,BU,FP,AB,DV,↓reduceIte,jA,jB,jC,enP,f0,f5,hA.aLen]
  refine CQ (fun hd => ?_) (fun hd => ?_)
  ·have hi':i < a.length:=by simpa using hd
   have hi2:i < b.length:=by omega
   obtain ⟨qa,s1,s2,_⟩:=hA.at' hi'
   obtain ⟨qb,t1,t2,_⟩:=hB.at' hi2
   simp -implicitDefEqProofs only [BB,CE,BR,A7]
   refine EK (by kernel_rfl) ?_
   simp -implicitDefEqProofs only [ET,DK,CY,D7,DL,EH,EC,HY,D9,BI,A7,AO,AA,AX,BO,BU,CG,AB,↓reduceIte,jA,jL,jB,enP,JO,f0,f1,f5,s1,s2,t1,t2,AQE]
   refine CQ (fun hq => ?_) (fun hq => ?_)
   ·have hq:a[i]≠b[i]:=by simpa using hq
    simp -implicitDefEqProofs only [BB,A8,BK,A7,CJ,D8,L6,F9,AZ,BA,AO,AQ,AL,BD,AY,AC,AA,AU,BM,BC,↓reduceIte,jB,jC]
    refine ⟨?_,trivial⟩
    have:(a == b)=false:=by
     rw [← qM,beq_iff_eq]; intro e; subst e; exact hq rfl
    rw [this]
   ·have hq:a[i]=b[i]:=by simpa using hq
    simp -implicitDefEqProofs only [A8,BR,A7,EO,FO,AZ,BA,AO,AQ,AL,BD,AY,AC,AA,AX,AU,BH,BJ,BC,BU,AB,D6,↓reduceIte,jA,jB,jC,enP,f5,wrap_succ (show i < 9223372036854775807 by omega)]
    refine ⟨n' - 1,by omega,i+1,by omega,by trivial,by trivial,by trivial,trivial,fun j h1 h2 hj => ?_⟩
    rcases jV j i with q | q
    ·exact he j h1 h2 q
    ·obtain rfl:j=i:=by omega
     exact hq
  ·have hi' : ¬ i < a.length:=by simpa using hd
   simp -implicitDefEqProofs only [EF,FC,MG,F8,↓reduceIte]
   refine ⟨trivial,List.ext_getElem hc fun j h1 h2=>he j h1 h2 (by omega)⟩
 ·rintro F H ⟨rfl,rfl⟩
  simp -implicitDefEqProofs only [BB,A8,BK,A7,F6,CV,AZ,BA,AO,AQ,AL,BD,AY,AC,AA,AU,BM,BC,↓reduceIte,jB,jC]
  exact ⟨by simp,trivial⟩
 ·rintro F H ⟨f4,rfl⟩
  simp -implicitDefEqProofs only [CJ,D8,CV,f4]
  exact ⟨trivial,trivial⟩
end
theorem A05 (p:Pr) (m:SM) (xs:List (List AV)):JZ Tryz.prog 78 [(0,.agg (DY p)),(1,.sl m 2 xs)]=some (.agg (DY p ++ [.sl m 2 xs,.bool false])):=by kernel_rfl
theorem A06 (p:Pr) (c n:Nat):JZ Tryz.prog 78 [(0,.agg (DY p)),(1,.own c 0 n)]=some (.agg (DY p ++ [.own c 0 n,.bool false])):=by kernel_rfl
def A1U (p:Pr) (l:List Rng) (m:Nat):Option (List Rng)→Prop
 | none=>MZ p l=none
 | some l'=>OL p.vars p.hard m (l',true)=MZ p l∧wid l' < m
theorem AYT (K:Hp) (L:AV) (lb:Nat) (l:List Rng) (hl:l.length≤1048576) (hL:NwL K L lb l) : ∃ B K',IU Tryz.prog true K 29 29 (.sl .full 2 []) L=some (B,K')∧Sm.ext K K'∧((l = []∧B = .sl .full 2 [])∨(l≠[]∧B = .own K.length 0 l.length∧K'[K.length]? = some (.live 2 (l.map encR)))):=by
 rcases hL with ⟨e,rfl⟩ | ⟨rfl,hb,hne⟩
 ·rw [e]; exact AI4 K .full [] (by decide)
 cases l with
 | nil=>exact absurd rfl hne
 | cons r l =>
   have h1:((r :: l).map encR)≠[]:=by simp
   have hc:KO K (.own lb 0 (r :: l).length)=some (2,(r :: l).map encR):=by
    rw [TY hb (by simp),List.drop_zero,jY (by simp)]
   have:=AI3 (xs := []) AG2 VC AS7 AR6 hc h1 (PV (by simp at hl ⊢; omega) (by omega))
   rw [List.length_nil,jG,jR,List.nil_append] at this
   exact ⟨_,_,this,(ext.rfl' _).app _,.inr ⟨by simp,rfl,DF _ _⟩⟩
section
variable (G:Nat→AV)
set_option maxHeartbeats 8000000 in
theorem AJF (p:Pr) (hs:PrS p) (l:List Rng) (m:SM) (hl:l.length≤1048576) (h:Hp):PCall (En G) 15 [.agg (DY p),.sl m 2 (l.map encR)] h (VR p l):=by
 refine ACalls.pure (R:=fun v H=>Sm.ext h H∧JS h.length H 3 v=VR p l) 3 ?_ (fun v H q=>q)
 refine IM (H:=hint [23] []) (enM G) Tryz.func15 rfl (by kernel_rfl) (by kernel_rfl) (jJ (by kernel_rfl)) ?_
 show awp _ _ _ _ _ (EN _ [.tmp 4,.tmp 5] _)
 have ge:=DF h (ABlk.live 5 [DY p])
 have hx:Sm.ext h (h ++ [ABlk.live 5 [DY p]]):=(ext.rfl' h).app _
 have hlh:h.length < (h ++ [ABlk.live 5 [DY p]]).length:=by simp
 simp -implicitDefEqProofs only [D5,jO,jP,jI,jM,BB,A8,A7,AZ,BA,AL,BD,AY,AC,AA,AX,AU,BH,KZ,BC,FQ,BO,CB,BF,↓reduceIte,jA,jB,jC,enP,ED,QP]
 generalize h ++ [ABlk.live 5 [DY p]]=H at ge hx hlh ⊢
 generalize hpb:h.length=pb at ge hlh ⊢
 simp -implicitDefEqProofs only [D5,jO,jP,jI,jM,AZ,AL,BD,AY,AC,AA,AX,BN,BV,BP,AB,jF,jD,jE,↓reduceIte,jB,jC,ED,J3 ge]
 refine (ZF G p hs H).use ?_
 simp -implicitDefEqProofs only [D5,jO,jP,jI,jM,AZ,BL,BX,CO,AL,BD,AY,AC,AA,AX,AU,BH,BJ,BU,AB,FT,↓reduceIte,jB,jC,enP,ED]
 refine IA (fun h1 => ?_) (fun h1 => ?_)
 ·have h1':KP p≠0:=by simpa using h1
  simp -implicitDefEqProofs only [D5,jO,jP,jI,jM,BB,A8,BK,BI,A7,CJ,JU,DI,AZ,BA,BL,BX,CO,F7,AL,BD,AY,AC,AA,EQ,AX,AU,BH,BM,KZ,BC,CP,DW,↓reduceIte,jA,jB,jC,ED,h1]
  refine ⟨hx,?_⟩
  unfold VR
  rw [if_pos (.inl h1')]; rfl
 have h1':KP p=0:=by simpa using h1
 simp -implicitDefEqProofs only [D5,jO,jP,jI,jM,BL,BX,CO,EY,AL,BD,AY,AC,AA,AX,BN,BJ,BO,BV,BP,AB,BF,BQ,jF,jD,jE,↓reduceIte,jA,jB,jC,enP,ED,h1,J3 ge]
 refine (ACK G p hs l m hl H).use ?_
 simp -implicitDefEqProofs only [D5,jO,jP,jI,jM,BI,A7,AZ,BA,BL,BX,CO,EY,AL,BD,AY,AC,AA,AX,AU,BM,CP,DZ,JG,AB,GG,↓reduceIte,jA,jB,jC,ED,h1]
 cases h3:MH p.vars l
 ·simp -implicitDefEqProofs only [D5,jO,jP,jI,jM,BB,A8,BK,A7,CJ,JU,DI,AZ,BA,AL,BD,AY,AC,AA,AU,BH,KZ,BC,↓reduceIte,jA,jB,jC,ED]
  refine ⟨hx,?_⟩
  unfold VR
  rw [if_pos (.inr h3)]; rfl
 obtain ⟨hwf,hlen⟩:=JD.1 h3
 have hne : ¬ (KP p≠0∨MH p.vars l=false):=by rw [h1',h3]; simp
 have hg:=AQ8 hs h1'
 have hkn:=A2V h1'
 have hpl:p.vars.length≤1048576:=by omega
 have fr:VR p l=match MZ p l with
  | none => .tup [.sl .nil 0 [],.int .i64 11]
  | some s => .tup [.sl (if s.1.length=0 then .full else .any) 2 (s.1.map encR),.int .i64 0]:=by unfold VR; rw [if_neg hne]; rfl
 obtain ⟨L,H',ha,hxA,hL⟩:=AI4 H m l hl
 simp -implicitDefEqProofs only [BB,BR,A7,DN,jW]
 refine QX (fun F H2 => ∃ sb lb,F 2 = .ptr pb 0 0∧F 6 = .ptr sb 0 0∧Sx H2 sb lb p (some l)∧Sm.ext H H2∧H.length≤sb∧H.length≤lb) (fun _ _=>False) ?_ ?_ (fun _ _ q=>q.elim)
 ·have bd78:JZ Tryz.prog 78 [(0,.agg (DY p)),(1,L)]=some (.agg (DY p ++ [L,.bool false])):=by
   rcases hL with ⟨_,rfl⟩ | ⟨_,rfl,_⟩
   ·exact A05 _ _ _
   ·exact A06 _ _ _
  have bx78:PO H' (.agg (DY p ++ [L,.bool false]))=some (.ptr H'.length 0 0,H' ++ [ABlk.live 7 [DY p ++ [L,.bool false]]]):=by
   rcases hL with ⟨_,rfl⟩ | ⟨_,rfl,_⟩ <;> rfl
  have done : ∃ sb lb,True∧AV.ptr H'.length 0 0 = .ptr sb 0 0∧Sx (H' ++ [ABlk.live 7 [DY p ++ [L,.bool false]]]) sb lb p (some l)∧Sm.ext H (H' ++ [ABlk.live 7 [DY p ++ [L,.bool false]]])∧H.length≤sb∧H.length≤lb:=by
   have hle:=hxA.le
   rcases hL with ⟨e,eL⟩ | ⟨e,eL,hb⟩
   ·refine ⟨H'.length,H'.length,trivial,rfl,⟨⟨L,l,false,DF _ _,.inl ⟨e,eL⟩,hlen,rfl,rfl,hwf⟩,fun q => ?_,by simp⟩,hxA.app _,hle,hle⟩
    rw [← hlen,e] at q; exact absurd q (by decide)
   ·have hlt:=CS hb
    exact ⟨H'.length,H.length,trivial,rfl,⟨⟨L,l,false,DF _ _,.inr ⟨eL,DC hb,e⟩,hlen,rfl,rfl,hwf⟩,fun _=>by omega,by simp; omega⟩,hxA.app _,hle,jQ _⟩
  refine Y5 (.ones [1,2] (.alt 0 (.ones [3,4,5,6] .done) (.alt 3 (.ones [0,4,5,6] .done) (.non)))) (by kernel_rfl) ?_
  simp only [DT,KC,zD,zB]
  simp -implicitDefEqProofs only [ET,ER,EP,D5,jO,jP,jI,jM,DK,CY,D7,DL,EH,G5,ABP,KT,QS,EC,MV,KW,AA,AX,FQ,FI,GR,BO,LV,CB,AB,BF,BQ,↓reduceIte,jA,jL,jB,enP,J3 ge,J3 (FD hxA ge),AM2,ha,bd78,bx78]
  exact ⟨done,done,trivial⟩
 rintro F H2 ⟨sb,lb,f2,f6,n2,hx2,o1,o2⟩
 have gp : ∀ {K:Hp},Kp sb lb H2 K→K[pb]? = some (ABlk.live 5 [DY p]):=fun k=>k.1 _ _ (FD hx2 ge) (by omega) (by omega)
 have fin : ∀ {K:Hp},Kp sb lb H2 K→Sm.ext h K:=fun k=>k.ext (hx.trans hx2) (by omega) (by omega)
 clear ha hxA hL
 -- the distributions
 simp -implicitDefEqProofs only [D5,jO,jP,jI,jM,BB,CE,A8,A7,AZ,BA,AL,BD,AY,AC,AU,BH,BC,jB,jC,ED]
 refine IY 0 (fun F K => ∃ r,A1U p l ((r.map fun l=>wid l+1).getD 0) r∧Sx K sb lb p r∧Kp sb lb H2 K∧F 2 = .ptr pb 0 0∧F 6 = .ptr sb 0 0) (fun _ _=>False) ?_ ?_ (fun _ _ q=>q.elim)
 ·refine EG (fun q F K => ∃ i r,q+i=p.dists.length∧r.bind (ARX (p.dists.drop i))=(UT p.dists (l,false)).map Prod.fst∧Sx K sb lb p r∧Kp sb lb H2 K∧F 2 = .ptr pb 0 0∧F 6 = .ptr sb 0 0∧F 7 = .int .i64 (i:Nat)) p.dists.length
   ⟨0,some l,by simp,by rw [List.drop_zero]; exact (AMU p.dists hg.ws (l,false)).symm,n2,Kp.rfl' _ _ _,by simp -implicitDefEqProofs only [AA,↓reduceIte,jA,f2],by simp -implicitDefEqProofs only [AA,↓reduceIte,jA,f6],by simp -implicitDefEqProofs only [AA,↓reduceIte]; rfl⟩ ?_
  clear f2 f6
  rintro q F K ⟨i,r,hq,hD,nK,kK,f2,f6,f7⟩
  have l24:DR Tryz.prog K 24 (.ptr pb 0 3)=some (.sl p.dm 2 (p.dists.map JE)):=by rw [DJ ASV (gp kK) (row:=DY p) rfl]; rfl
  simp -implicitDefEqProofs only [D5,jO,jP,jI,jM,BB,A8,BI,A7,AZ,BA,AL,BD,AY,AC,AA,AX,BJ,BO,BU,BG,FP,AB,DV,↓reduceIte,jA,jG,jB,jC,enP,AQN,ZR,ED,f2,f7,l24,jR]
  refine CQ (fun hc => ?_) (fun hc => ?_)
  ·have hi':i < p.dists.length:=by simpa using hc
   have hmem:=jT hi'
   rw [zO hi'] at hD
   have hD:(r.bind (AGW p.dists[i])).bind (ARX (p.dists.drop (i+1)))=(UT p.dists (l,false)).map Prod.fst:=by rw [Option.bind_assoc]; exact hD
   simp -implicitDefEqProofs only [D5,jO,jP,jI,jM,BB,CE,A8,BR,A7,AZ,AL,BD,AY,AC,AA,AX,BN,BJ,BO,BG,CG,BV,BP,AB,jF,jD,jE,↓reduceIte,jA,jG,jB,jC,enP,ACE,ZR,ED,f2,f6,f7,l24,EX hi',EU AST AG5 V6 hi']
   refine ACalls.mono (AGY G sb lb p r p.dists[i] (hg.var _ hmem) (hs.ws _ hmem) K nK) ?_
   rintro v K' ⟨n',k'⟩
   simp -implicitDefEqProofs only [D5,jO,jP,jI,jM,A8,A7,EO,FO,AZ,BA,AL,BD,AY,AC,AA,AX,AU,BH,BJ,BC,BU,AB,D6,↓reduceIte,jA,jB,jC,enP,ED,f7,wrap_succ (show i < 9223372036854775807 by have:=hs.dists; omega)]
   exact ⟨q - 1,by omega,i+1,_,by omega,hD,n',kK.trans k',by trivial,by trivial,by trivial⟩
  ·have hi' : ¬ i < p.dists.length:=by simpa using hc
   rw [zS (by omega)] at hD
   have hD:r=(UT p.dists (l,false)).map Prod.fst:=by rw [← hD]; cases r <;> rfl
   simp -implicitDefEqProofs only [EF,FC,MG,F8,AA,↓reduceIte,jA]
   refine ⟨r,?_,nK,kK,f2,f6⟩
   rw [hD]
   cases hd:UT p.dists (l,false) with
   | none=>show MZ p l=none; unfold MZ; rw [hd]; rfl
   | some s=>exact ⟨by unfold MZ; rw [hd]; rfl,Nat.lt_succ_self _⟩
 clear f2 f6 n2
 rintro F K ⟨r,hQ,nK,kK,f2,f6⟩
 -- the rounds
 have bad : ∀ {K:Hp},MZ p l=none→Kp sb lb H2 K→Sm.ext h K∧JS pb K 3 (.tup [.sl .nil 0 [],.int .i64 11])=VR p l:=fun q k=>by
  refine ⟨fin k,?_⟩
  rw [fr,q]; rfl
 simp -implicitDefEqProofs only [BB,CE,A7,F6,↓reduceIte]
 refine IY 2 (fun F K=>MZ p l=none∧Kp sb lb H2 K) (fun F K=>Sm.ext h K∧JS pb K 3 (.tup [F 4,F 5])=VR p l) ?_ ?_ ?_
 ·refine EG (fun q F K => ∃ r,A1U p l q r∧Sx K sb lb p r∧Kp sb lb H2 K∧F 2 = .ptr pb 0 0∧F 6 = .ptr sb 0 0) ((r.map fun l=>wid l+1).getD 0) ⟨r,hQ,nK,kK,f2,f6⟩ ?_
  clear hQ nK kK f2 f6
  rintro q F K ⟨r,hQ,nK,kK,f2,f6⟩
  rcases nK.some' with ⟨L,cur,s1,_,_,rfl⟩ | ⟨L,l',s1,hLO,hNL,hll,rfl,hw⟩
  ·simp -implicitDefEqProofs only [D5,jO,jP,jI,jM,BB,A8,EF,BI,A7,FC,MG,F8,DN,AZ,BA,AL,BD,AY,AC,AA,AX,BJ,BO,JG,BG,AB,GG,↓reduceIte,jG,jB,jW,jC,enP,UQ,ED,EM,EW,f6,AAJ s1]
   exact ⟨hQ,kK⟩
  obtain ⟨q',rfl⟩ : ∃ k,q=k+1:=⟨q - 1,by have:=hQ.2; omega⟩
  have hwd:wid l' < q'+1:=hQ.2
  have hS:(QT p.vars p.hard (l',true)).bind (OL p.vars p.hard q')=MZ p l:=hQ.1
  have hsl:=nK.lt (jQ K.length)
  have hss:sb < K.length:=CS s1
  have hlt:=nK.lbl
  obtain ⟨B,K1,hap,hx1,hB⟩:=AYT K L lb l' (by omega) hNL
  have hBO : ∀ {K2:Hp},Kp sb lb K1 K2→LOk K2 B l':=fun k=>by
   rcases hB with ⟨e,rfl⟩ | ⟨e,rfl,hb⟩
   ·rw [e]; exact .inl ⟨.full,rfl⟩
   ·exact .inr ⟨_,rfl,k.1 _ _ hb (by omega) (by omega)⟩
  have n1:=nK.ext hx1
  have k1:=kK.trans (Kp.ofExt (nb:=sb) (lb:=lb) hx1)
  simp -implicitDefEqProofs only [ER,D5,jO,jP,jI,jM,BB,CE,A8,BR,BI,A7,DI,AZ,BA,AL,BD,AY,AC,AA,AX,AU,BH,BJ,BC,GR,BO,JG,BG,LV,CB,AB,GG,↓reduceIte,jA,jG,jB,jC,enP,RS,UQ,ED,EM,EW,f6,AAJ s1,RF s1,AM2,hap]
  have hhl:p.hard.length≤1048576:=by have:=hs.exprs; omega
  refine IY 4 (fun F K=>Sx K sb lb p (P7 p.vars p.hard l')∧Kp sb lb K1 K∧F 2 = .ptr pb 0 0∧F 6 = .ptr sb 0 0∧F 8=B) (fun _ _=>False) ?_ ?_ (fun _ _ q=>q.elim)
  ·refine EG (fun m F K => ∃ i r,m+i=p.hard.length∧r.bind (P7 p.vars (p.hard.drop i))=P7 p.vars p.hard l'∧Sx K sb lb p r∧Kp sb lb K1 K∧F 2 = .ptr pb 0 0∧F 6 = .ptr sb 0 0∧F 8=B∧F 9 = .int .i64 (i:Nat)) p.hard.length
    ⟨0,some l',by simp,rfl,n1,Kp.rfl' _ _ _,by simp -implicitDefEqProofs only [AA,↓reduceIte,jA,f2],by simp -implicitDefEqProofs only [AA,↓reduceIte,jA,f6],by simp -implicitDefEqProofs only [AA,↓reduceIte,jA],by simp -implicitDefEqProofs only [AA,↓reduceIte]; rfl⟩ ?_
   clear f2 f6
   rintro m F K2 ⟨i,r,hm,hN,nt,kt,f2,f6,f8,f9⟩
   have l23:DR Tryz.prog K2 23 (.ptr pb 0 1)=some (.sl p.hm 4 (p.hard.map CW)):=by rw [DJ NM (gp (k1.trans kt)) (row:=DY p) rfl]; rfl
   simp -implicitDefEqProofs only [D5,jO,jP,jI,jM,BB,A8,BI,A7,AZ,BA,AL,BD,AY,AC,AA,AX,BJ,BO,BU,BG,FP,AB,DV,↓reduceIte,jA,jG,jB,jC,enP,TD,V5,ED,f2,f9,l23,jR]
   refine CQ (fun hc => ?_) (fun hc => ?_)
   ·have hi':i < p.hard.length:=by simpa using hc
    have hmem:=jT hi'
    rw [zO hi'] at hN
    have hN:(r.bind (XN p.vars p.hard[i])).bind (P7 p.vars (p.hard.drop (i+1)))=P7 p.vars p.hard l':=by rw [Option.bind_assoc]; exact hN
    simp -implicitDefEqProofs only [D5,jO,jP,jI,jM,BB,CE,A8,BR,A7,AZ,AL,BD,AY,AC,AA,AX,BN,BJ,BO,BG,CG,BV,BP,AB,jF,jD,jE,↓reduceIte,jA,jG,jB,jC,enP,LQ,V5,ED,f2,f6,f9,l23,EX hi',EU KJ JR ES hi']
    refine ACalls.mono (AYJ G sb lb p hs hpl p.hard[i] (hg.hard _ hmem) (hkn _ hmem) r K2 nt) ?_
    rintro v K' ⟨n',k'⟩
    simp -implicitDefEqProofs only [D5,jO,jP,jI,jM,A8,A7,EO,FO,AZ,BA,AL,BD,AY,AC,AA,AX,AU,BH,BJ,BC,BU,AB,D6,↓reduceIte,jA,jB,jC,enP,ED,f9,wrap_succ (show i < 9223372036854775807 by omega)]
    exact ⟨m - 1,by omega,i+1,_,by omega,hN,n',kt.trans k',by trivial,by trivial,by trivial,by trivial⟩
   ·have hi' : ¬ i < p.hard.length:=by simpa using hc
    rw [zS (by omega)] at hN
    have hN:r=P7 p.vars p.hard l':=by rw [← hN]; cases r <;> rfl
    subst hN
    simp -implicitDefEqProofs only [EF,FC,MG,F8,AA,↓reduceIte,jA]
    exact ⟨nt,kt,f2,f6,f8⟩
  clear f2 f6
  rintro F K2 ⟨nt,kt,f2,f6,f8⟩
  have k2:=k1.trans kt
  have hmap:(QU p.vars p.hard (l',false)).map Prod.fst=P7 p.vars p.hard l':=AHT p.vars p.hard (fun e he=>⟨hg.hard e he,hkn e he⟩) (l',false) hll hw
  have hbO:=hBO kt
  rcases nt.some' with ⟨L2,cur,s2,_,_,e2⟩ | ⟨L2,l2,s2,hLO2,hNL2,hll2,e2,hw2⟩
  ·have hr0:MZ p l=none:=by
    rw [← hS]
    rw [e2] at hmap
    have:QU p.vars p.hard (l',false)=none:=by
     cases hq:QU p.vars p.hard (l',false) with
     | none=>rfl
     | some s=>rw [hq] at hmap; cases hmap
    unfold QT
    rw [this]; rfl
   simp -implicitDefEqProofs only [D5,jO,jP,jI,jM,BB,A8,EF,BI,A7,FC,F6,MG,F8,DI,AZ,BA,AL,BD,AY,AC,AA,AX,BJ,BO,BG,AB,↓reduceIte,jA,jG,jB,jC,enP,UQ,ED,EM,EW,f6,AAJ s2]
   exact ⟨hr0,k2⟩
  obtain ⟨c,hN⟩ : ∃ c,QU p.vars p.hard (l',false)=some (l2,c):=by
   rw [e2] at hmap
   cases hq:QU p.vars p.hard (l',false) with
   | none=>rw [hq] at hmap; cases hmap
   | some s =>
     rw [hq] at hmap
     have:s.1=l2:=Option.some.inj hmap
     exact ⟨s.2,by rw [← this]⟩
  have hR:QT p.vars p.hard (l',true)=if ADZ p.vars p.hard l2=true then none else some (l2,c):=by
   unfold QT
   rw [hN]; rfl
  have hste:=YJ p.vars p.hard (l',false) (l2,c) hll hN
  have l23:DR Tryz.prog K2 23 (.ptr pb 0 1)=some (.sl p.hm 4 (p.hard.map CW)):=by rw [DJ NM (gp k2) (row:=DY p) rfl]; rfl
  simp -implicitDefEqProofs only [D5,jO,jP,jI,jM,BB,CE,A8,BR,BI,A7,F6,DN,AZ,BA,AL,BD,AY,AC,AA,AX,AU,BH,BJ,BC,BO,BG,AB,↓reduceIte,jG,jB,jC,enP,UQ,ED,EM,EW,f6,AAJ s2]
  refine IY 6 (fun F K=>(∀ e∈p.hard,isF (evS p.vars l2 e)=false)∧K=K2∧F 2 = .ptr pb 0 0∧F 6 = .ptr sb 0 0∧F 8=B) (fun F K=>Sm.ext h K∧JS pb K 3 (.tup [F 4,F 5])=VR p l) ?_ ?_ ?_
  ·refine EG (fun m F K => ∃ i,m+i=p.hard.length∧(∀ e∈p.hard.take i,isF (evS p.vars l2 e)=false)∧K=K2∧F 2 = .ptr pb 0 0∧F 6 = .ptr sb 0 0∧F 8=B∧F 10 = .int .i64 (i:Nat)) p.hard.length
    ⟨0,by simp,by simp,rfl,by simp -implicitDefEqProofs only [AA,↓reduceIte,jA,f2],by simp -implicitDefEqProofs only [AA,↓reduceIte,jA,f6],by simp -implicitDefEqProofs only [AA,↓reduceIte,jA,f8],by simp -implicitDefEqProofs only [AA,↓reduceIte]; rfl⟩ ?_
   clear f2 f6 f8
   rintro m F K ⟨i,hm,hF,rfl,f2,f6,f8,f10⟩
   simp -implicitDefEqProofs only [D5,jO,jP,jI,jM,BB,A8,BI,A7,AZ,BA,AL,BD,AY,AC,AA,AX,BJ,BO,BU,BG,FP,AB,DV,↓reduceIte,jA,jG,jB,jC,enP,TD,V5,ED,f2,f10,l23,jR]
   refine CQ (fun hc => ?_) (fun hc => ?_)
   ·have hi':i < p.hard.length:=by simpa using hc
    have hmem:=jT hi'
    have hek:=hg.hard _ hmem
    have e0 : ∀ x y:Bool,((tri x y) == 0)=(!x && y):=by decide
    have htf:=ADU (X6 p.vars hw2 p.hard[i] hek.n)
    have e2:(!(isT (evS p.vars l2 p.hard[i])) && isF (evS p.vars l2 p.hard[i]))=isF (evS p.vars l2 p.hard[i]):=by
     cases q:isT (evS p.vars l2 p.hard[i])
     ·rfl
     ·rw [htf q]; rfl
    simp -implicitDefEqProofs only [BB,CE,BR,A7]
    refine EK (by kernel_rfl) ?_
    simp -implicitDefEqProofs only [ET,D5,jO,jP,jI,jM,DK,CY,DL,EH,EC,HY,C9,D9,EI,EE,AA,AX,AU,BN,BH,BO,BU,BG,CG,AB,jF,jD,jE,↓reduceIte,jA,jL,jG,jB,enP,LQ,V5,RS,EM,FZ,EW,f2,f6,f10,l23,EX hi',EU KJ JR ES hi',J3 (gp k2),RF s2]
    refine ⟨_,YV G p hs l2 hll2 (by omega) hw2 p.hard[i] (by have:=QI p.hard[i]; have:=hek.w; omega) hek.n K L2 hLO2,?_⟩
    try simp -implicitDefEqProofs only []
    refine ⟨_,KX G _ K,?_⟩
    simp -implicitDefEqProofs only [CY,D7,BI,A7,AA,AX,AB,CX,↓reduceIte,e0,e2]
    refine CQ (fun hd => ?_) (fun hd => ?_)
    ·have:ADZ p.vars p.hard l2=true:=List.any_eq_true.2 ⟨_,hmem,hd⟩
     rw [if_pos this] at hR
     rw [hR] at hS
     simp -implicitDefEqProofs only [D5,jO,jP,jI,jM,BB,A8,BK,A7,CJ,D8,L6,F9,AZ,BA,AL,BD,AY,AC,AA,AU,BH,KZ,BC,↓reduceIte,jA,jB,jC,ED]
     exact bad hS.symm k2
    ·simp -implicitDefEqProofs only [D5,jO,jP,jI,jM,A8,BR,A7,EO,FO,AZ,BA,AL,BD,AY,AC,AA,AX,AU,BH,BJ,BC,BU,AB,D6,↓reduceIte,jA,jB,jC,enP,ED,f10,wrap_succ (show i < 9223372036854775807 by omega)]
     refine ⟨m - 1,by omega,i+1,by omega,fun e he => ?_,trivial,by trivial,by trivial,by trivial,by trivial⟩
     rw [zY hi'] at he
     rcases zX.1 he with he | he
     ·exact hF e he
     ·rw [List.mem_singleton] at he; subst he; exact hd
   ·have hi' : ¬ i < p.hard.length:=by simpa using hc
    rw [jY (by omega)] at hF
    simp -implicitDefEqProofs only [EF,FC,MG,F8,AA,↓reduceIte,jA]
    exact ⟨hF,trivial,f2,f6,f8⟩
  ·clear f2 f6 f8
   rintro F K ⟨hF,rfl,f2,f6,f8⟩
   have hck:ADZ p.vars p.hard l2=false:=by
    unfold ADZ
    rw [List.any_eq_false]
    intro e he
    rw [hF e he]; decide
   rw [hck,if_neg (by decide)] at hR
   rw [hR] at hS
   have hS:OL p.vars p.hard q' (l2,c)=MZ p l:=hS
   simp -implicitDefEqProofs only [D5,jO,jP,jI,jM,BB,A8,A7,F6,AZ,AL,BD,AY,AC,AA,AX,BN,BJ,BO,BG,BV,BP,AB,jF,jD,jE,↓reduceIte,jA,jG,jB,jC,enP,RS,ED,EM,EW,f6,f8,RF s2]
   refine (ANN G l' l2 B L2 (by omega) K hbO hLO2).use ?_
   simp -implicitDefEqProofs only [BI,A7,BA,AC,AA,AX,↓reduceIte]
   refine CQ (fun hd => ?_) (fun hd => ?_)
   ·have hd:l'=l2:=by simpa using hd
    have hc:c=false:=by
     cases hc:c with
     | false=>rfl
     | true =>
       exfalso
       rcases hste.chg hw hc with q | q
       ·cases q
       ·have q:wid l2 < wid l':=q
        rw [hd] at q; omega
    subst hc
    have hrun:MZ p l=some (l2,false):=by
     rw [← hS]
     cases q' with
     | zero=>rfl
     | succ n=>rfl
    simp -implicitDefEqProofs only [D5,jO,jP,jI,jM,BB,A8,BK,A7,D8,L6,F9,AZ,BA,AL,BD,AY,AC,AA,AX,AU,BH,BJ,BC,BO,BG,AB,↓reduceIte,jA,jG,jB,jC,enP,RS,ED,EM,EW,f6,RF s2]
    refine ⟨fin k2,?_⟩
    rw [fr,hrun]
    rcases hNL2 with ⟨e,rfl⟩ | ⟨rfl,hb,hn⟩
    ·show JS pb K 3 (.tup [.sl .full 2 [],.int .i64 0]) = .tup [.sl (if l2.length=0 then .full else .any) 2 (l2.map encR),.int .i64 0]
     rw [e]; rfl
    ·have hz : ¬ l2.length=0:=by simpa using hn
     show AV.tup [JS pb K 2 (.own lb 0 l2.length),JS pb K 2 (.int .i64 0)] = .tup [.sl (if l2.length=0 then .full else .any) 2 (l2.map encR),.int .i64 0]
     rw [if_neg hz,AF0 ARC (by omega) hb]; rfl
   ·have hd : ¬ l'=l2:=by simpa using hd
    have hc:c=true:=by
     cases hc:c with
     | true=>rfl
     | false =>
       exfalso
       exact hd (hste.un hc).2.symm
    subst hc
    have hlt:wid l2 < wid l':=by
     rcases hste.chg hw rfl with q | q
     ·cases q
     ·exact q
    rw [e2] at nt
    simp -implicitDefEqProofs only [BR,EO,FO,AA,↓reduceIte,jA]
    exact ⟨q',by omega,some l2,⟨hS,by omega⟩,nt,k2,f2,f6⟩
  ·intro F K hq
   simp -implicitDefEqProofs only [CJ,D8,L6,F9]
   exact hq
 ·rintro F K ⟨hr0,k⟩
  simp -implicitDefEqProofs only [D5,jO,jP,jI,jM,BB,A8,BK,A7,F6,JU,AZ,BA,AL,BD,AY,AC,AA,AU,BH,KZ,BC,↓reduceIte,jA,jB,jC,ED]
  exact bad hr0 k
 ·intro F K hq
  simp -implicitDefEqProofs only [CJ,D8,JU]
  exact hq
theorem ALH (p:Pr) (hs:PrS p) (l:List Rng) (m:SM) (hl:l.length≤1048576) (h:Hp):PCall (En G) 15 [.agg (DY p),.sl m 2 (l.map encR)] h (.tup [.sl (AJ1 p l) 2 ((TQ p l).1.map encR),.int .i64 (TQ p l).2]):=by
 refine PCall.res (AJF G p hs l m hl h) ?_
 have hn:CvR (.sl .nil 0 []) (.sl .nil 2 []):=CvR.sl (Cv.nil 0 2)
 unfold VR TQ AJ1
 by_cases h:KP p≠0∨MH p.vars l=false
 ·rw [if_pos h,if_pos h,if_pos h]
  exact CvR.tup (CvRL.cons hn (CvRL.refl _))
 ·rw [if_neg h,if_neg h,if_neg h]
  cases MZ p l with
  | none=>exact CvR.tup (CvRL.cons hn (CvRL.refl _))
  | some s=>exact CvR.refl _
end
section
variable (G:Nat→AV)
set_option maxHeartbeats 2000000 in
theorem AWH (hG:GOk G) (p:Pr) (hs:PrS p) (l:List Rng) (m:SM) (hl:l.length≤1048576) (h:Hp):PCall (En G) 4 [.agg (DY p),.sl m 2 (l.map encR)] h (.bool true):=by
 refine ACalls.pure0 rfl ?_
 refine acN Tryz.func4 rfl ?_
 show awp _ _ _ _ _ (EN _ [.tmp 4] _)
 have ge:=DF h (ABlk.live 5 [DY p])
 have hx:ext h (h ++ [ABlk.live 5 [DY p]]):=(ext.rfl' h).app _
 simp -implicitDefEqProofs only [BB,CE,A8,A7,AZ,BA,AO,AQ,AL,BD,AY,AC,AA,AX,AU,BH,BM,BJ,BC,FQ,FP,CB,AB,BF,BQ,↓reduceIte,jA,jB,jC,enP,ZL,QP,jR]
 generalize h ++ [ABlk.live 5 [DY p]]=H0 at ge hx ⊢
 generalize h.length=eb at ge ⊢
 refine IY 0 (fun F H=>F 1 = .sl m 2 (l.map encR)∧F 2 = .ptr eb 0 0∧ext H0 H) (fun F H=>F 4 = .bool true∧ext H0 H) ?_ ?_ ?_
 ·refine EG (fun n F H => ∃ i,n+i=l.length∧F 1 = .sl m 2 (l.map encR)∧F 2 = .ptr eb 0 0∧F 11 = .sl m 2 (l.map encR)∧F 12 = .int .i64 (l.length:Nat)∧F 13 = .int .i64 (i:Nat)∧ext H0 H) l.length ⟨0,by simp,by simp -implicitDefEqProofs only [AA,BF,BQ,↓reduceIte,jA],by simp -implicitDefEqProofs only [AA,↓reduceIte,jA],by simp -implicitDefEqProofs only [AA,↓reduceIte,jA],by simp -implicitDefEqProofs only [AA,↓reduceIte,jA],by simp -implicitDefEqProofs only [AA,↓reduceIte]; rfl,ext.rfl' _⟩ ?_
  rintro n F H ⟨i,hi,f1,f2,f11,f12,f13,hxH⟩
  simp -implicitDefEqProofs only [BB,A8,BI,A7,AZ,BA,AO,AQ,AL,BD,AY,AC,AA,AX,BU,AB,DV,↓reduceIte,jB,jC,enP,f12,f13]
  refine CQ (fun hc => ?_) (fun hc => ?_)
  ·have hi':i < l.length:=by simpa using hc
   have g6:=DF H (ABlk.live 2 [encR l[i]])
   simp -implicitDefEqProofs only [BB,CE,A8,BR,A7,AZ,BA,AO,AQ,AL,BD,AY,AC,DU,AA,AX,EZ,BO,CU,BG,CG,CB,AB,BZ,↓reduceIte,jA,jG,jB,jC,enP,JO,FN,jK,f11,f13,EX hi',EU AJB VC RU hi',KG,NF]
   have hx3:=hxH.app [ABlk.live 2 [encR l[i]]]
   generalize H ++ [ABlk.live 2 [encR l[i]]]=H1 at g6 hx3 ⊢
   generalize H.length=rb at g6 ⊢
   simp -implicitDefEqProofs only [BI,A7,AZ,BA,AO,AQ,AL,BD,AY,AC,AA,AX,AU,BH,BU,AB,FM,↓reduceIte,jB,jC,enP,GI g6]
   refine CQ (fun h1 => ?_) (fun h1 => ?_)
   ·simp -implicitDefEqProofs only [BB,A8,AZ,AO,AQ,AL,BD,AY,BN,BV,BP,jD,jE,jB,jC]
    refine (PM G hG H1).use ?_
    simp -implicitDefEqProofs only [BK,A7,CJ,D8,L6,F9,AZ,BA,AO,AQ,AL,BD,AY,AC,AA,AX,BC,↓reduceIte,jB,jC]
    exact ⟨trivial,hx3⟩
   ·simp -implicitDefEqProofs only [A8,BR,A7,EO,FO,AZ,BA,AO,AQ,AL,BD,AY,AC,AA,AX,AU,BH,BJ,BU,AB,D6,↓reduceIte,jA,jB,jC,enP,f13,wrap_succ (show i < 9223372036854775807 by omega)]
    exact ⟨n - 1,by omega,i+1,by omega,by trivial,by trivial,by trivial,by trivial,by trivial,hx3⟩
  ·simp -implicitDefEqProofs only [EF,FC,MG,F8,AA,↓reduceIte,jA]
   exact ⟨f1,f2,hxH⟩
 ·rintro F H ⟨f1,f2,hxH⟩
  have geH:=FD hxH ge
  have hxx:=hx.trans hxH
  have hnl:(TQ p l).1.length≤1048576:=by
   by_cases q:(TQ p l).2=0
   ·obtain ⟨_,_,s,_,e,_,_,e2,_⟩:=AXR hs q
    rw [e,e2]; exact hl
   ·rw [AUD q]; decide
  have hsm:((TQ p l).1 == (TQ p l).1)=true:=by simp
  have hsame:=AHD G (TQ p l).1 (TQ p l).1 (AJ1 p l) (AJ1 p l) hnl H
  rw [hsm] at hsame
  simp -implicitDefEqProofs only [BB,A8,A7,F6,AZ,AO,AQ,AL,BD,AY,AC,AA,AX,BN,BJ,BO,BV,BP,AB,jF,jD,jE,↓reduceIte,jA,jB,jC,enP,f1,f2,J3 geH]
  refine (AAX G hG p hs l m hl H).use ?_
  simp -implicitDefEqProofs only [zB,zD,BB,A8,A7,AZ,BA,AO,AQ,AL,BD,AY,AC,AA,AX,BN,BJ,BC,BO,G8,JJ,BV,BP,AB,jF,jD,jE,↓reduceIte,jA,jB,jC,enP,f1,f2,J3 geH]
  refine (ALH G p hs l m hl H).use ?_
  simp -implicitDefEqProofs only [zB,zD,BB,A8,A7,AZ,BA,AO,AQ,AL,BD,AY,AC,AA,AX,BN,BJ,BC,G8,JJ,BV,BP,AB,jF,jD,jE,↓reduceIte,jA,jB,jC]
  refine hsame.use ?_
  simp -implicitDefEqProofs only [AZ,BL,BX,CO,GL,AO,AQ,AL,BD,AY,AC,AA,AX,AU,BN,BM,BJ,CP,DW,BU,BV,BP,AB,CX,jD,jE,↓reduceIte,jA,jB,jC,enP,beq_self_eq_true]
  refine (PM G hG H).use ?_
  simp -implicitDefEqProofs only [BK,A7,CV,AZ,BA,AO,AQ,AL,BD,AY,AC,AA,AX,AU,BM,BC,CP,DW,↓reduceIte,jA,jB,jC]
  exact ⟨by trivial,hxx⟩
 ·rintro F H ⟨f4,hxH⟩
  simp -implicitDefEqProofs only [CJ,D8,CV,f4]
  exact ⟨trivial,hx.trans hxH⟩
end
end Go.Proofs.YtokehnfjjmpanaaGreatDoor.Bd
namespace Go.Proofs.YtokehnfjjmpanaaGreatDoor.Cov
open Sm Bins Go.Proofs.YtokehnfjjmpanaaGreatDoor.Bd Go.RowKit
theorem A27:Tryz.prog.cellsOf 41=1:=by kernel_rfl
theorem A3U:Tryz.prog.cellsOf 43=11:=by kernel_rfl
theorem A23:Tryz.prog.cellsOf 55=1:=by kernel_rfl
def AZZ (c:Cs) (b:Nat):Prop := ∃ b1 b2 b3 b4,b1+b2+b3+b4≤b∧AXN c.p b1∧okE c.e b2∧c.l.length≤b3∧okL (fun z _=>0≤z∧z≤65535) c.at' b4
theorem A3T:Rd Tryz.prog 43 KD AZZ:=by
 intro n
 match n with
 | 0=>exact RdAt.zero
 | 1=>exact AFJ Tryz.underlying43
 | n+2 =>
   have r4:RdAt Tryz.prog (n+1) 41 (fun x:SM × List Int => [.sl x.1 1 (x.2.map ARW)]) (fun x b => ∃ b',b'+1≤b∧okL (fun z _=>0≤z∧z≤65535) x.2 b'):=OJ Tryz.underlying41 A23 (by decide) (fun _=>rfl) (AXF Tryz.underlying55 n)
   refine RdAt.map (fun x:Pr × Ex × Rl × (SM × List Int) × Unit=>(⟨x.1,x.2.1,x.2.2.1.m,x.2.2.1.l,x.2.2.2.1.1,x.2.2.2.1.2⟩:Cs))
    (O5 Tryz.underlying43 (IK rfl A3A GZ (A2K _) (IK rfl AYG ES (rdE _) (IK rfl A29 (fun _=>rfl) (A2J _) (IK rfl A27 (fun _=>rfl) r4 UK))))) (fun x=>by simp [KD]) ?_
   rintro ⟨a,b,c,d,_⟩ N ⟨_,hN,b1,b2,hb,h1,b3,b4,hb2,h2,b5,b6,hb3,h3,b7,b8,hb4,h4,_⟩
   exact ⟨b1,b3,b5,b7,by omega,h1,h2,h3,UM h4⟩
theorem A1Z {c:Cs} {b:Nat} (h:AZZ c b) (hb:b≤1048576):CsS c:=by
 obtain ⟨b1,b2,b3,b4,h0,h1,h2,h3,h4⟩:=h
 have l4:=h4.length
 unfold okE at h2
 refine ⟨AXK h1 (by omega),by omega,by omega,by omega,fun z hz => ?_⟩
 obtain ⟨b5,_,h5⟩:=h4.each z hz
 exact h5
end Go.Proofs.YtokehnfjjmpanaaGreatDoor.Cov
