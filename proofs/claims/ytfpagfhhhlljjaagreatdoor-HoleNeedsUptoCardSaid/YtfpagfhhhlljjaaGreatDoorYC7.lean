/- Part 7 of the proof (M5, M6, M7, M9, M10, M11, M12, M13, M14, N1, N2, N4, N7, N8, N10, N12, N13); no condition. -/
import Derived.Test.YtfpagfhhhlljjaaGreatDoorYC6
set_option linter.unusedVariables false
set_option linter.unusedSimpArgs false
set_option maxRecDepth 8000
namespace Go.Proofs.YtfpagfhhhlljjaaGreatDoor.Cov
open Sm Bins Go.RowKit
open Bool renaming not_false→jB,and_eq_true→jU,not_true→jV
open List renaming length_map→jI,map_cons→jE,map_nil→jD,nil_append→qF,cons_append→qK,findIdx?_eq_some_iff_getElem→qX,all_eq_true→zF,take_succ_eq_append_getElem→zN,all_append→yA,all_cons→qQ,take_of_length_le→jW,findIdx?_eq_none_iff→qY,append_nil→jF,any_eq_true→qC,any_eq_false→wS,drop_eq_getElem_cons→zQ,getElem?_eq_getElem→jL,mem_cons→qI,getElem_mem→jO,append_assoc→zI,drop_eq_nil_of_le→zG
open Nat renaming le_of_ble_eq_true→jH,reduceEqDiff→jC,le_refl→jK,add_zero→jM,zero_add→jG,reduceAdd→jQ
open Option renaming getD_some→jA,getD_none→jT
theorem AKB (G:Nat→AV) (xs:List Is) (m:SM) (fid:FuncId) (caps:List AV) (p:Is→Bool) (h:Hp) (hl:xs.length≤1099511627776)
  (hf : ∀ r,PCall (En G) fid (.sl r.m 1 (r.l.map qencI) :: caps) h (.bool (p r))) :
  PCall (En G) 134 [.sl m 1 (xs.map encL),.fn (.func fid) [] caps] h (.int .i64 (match xs.findIdx? p with | some i=>(i:Int) | none => -1)):=by
 refine acN Tryz.func134 rfl ?_
 show awp _ _ _ _ _ (D8 _ [.tmp 4] _)
 simp -implicitDefEqProofs only [BC,BP,BA,A8,AY,BB,AO,AQ,AL,BD,AX,AC,AA,AZ,AU,BH,BG,A7,D6,AB,BF,↓reduceIte,jC,jA,jB,enP,AZD,jI]
 refine DY (fun n F H => ∃ k,n+k=xs.length∧F 0 = .sl m 1 (xs.map encL)∧F 1 = .fn (.func fid) [] caps∧F 7 = .int .i64 xs.length∧F 8 = .int .i64 (k:Nat)∧H=h∧(xs.take k).all (fun r => !p r)=true) xs.length ⟨0,by simp,rfl,rfl,rfl,rfl,rfl,rfl⟩ ?_
 rintro n F H ⟨k,hk,f0,f1,f7,f8,rfl,hin⟩
 simp -implicitDefEqProofs only [BC,BA,BI,A8,AY,BB,AO,AQ,AL,BD,AX,AC,AA,AZ,BQ,AB,C9,↓reduceIte,jA,jB,enP,f0,f1,f7,f8,jI]
 refine CV (fun hc => ?_) (fun hc => ?_)
 ·have hc':k < xs.length:=by simpa using hc
  simp -implicitDefEqProofs only [BC,BP,BA,BR,A8,AY,BB,AO,AQ,AL,BD,AX,AC,AA,AZ,BG,A7,BX,CG,BZ,BO,AB,jE,jD,qF,qK,↓reduceIte,jC,jA,jB,enP,AEH,f0,f1,f7,f8,D7 hc',DZ OA hc',AV2]
  refine (hf _).use ?_
  simp -implicitDefEqProofs only [BI,A8,BB,AC,AA,AZ,↓reduceIte]
  refine CV (fun hb => ?_) (fun hb => ?_)
  ·simp -implicitDefEqProofs only [BC,BA,BJ,A8,CQ,ED,F7,CJ,AY,BB,AO,AQ,AL,BD,AX,AC,AA,AZ,BG,A7,↓reduceIte,jC,jA,jB]
   refine ⟨?_,trivial⟩
   rw [qX.2 ⟨hc',hb,fun j hj=>by
    rw [zF] at hin
    have:=hin xs[j] (by rw [List.mem_take_iff_getElem]; exact ⟨j,by omega,rfl⟩)
    simpa using this⟩]
  ·simp -implicitDefEqProofs only [BA,BR,A8,EH,ER,AY,BB,AO,AQ,AL,BD,AX,AC,AA,AZ,AU,BH,BG,BQ,AB,DK,↓reduceIte,jC,jA,jB,enP,f8,wrap_succ (show k < 9223372036854775807 by omega)]
   refine ⟨n - 1,by omega,k+1,by omega,f0,f1,f7,rfl,trivial,?_⟩
   rw [zN hc',yA,hin]
   simp only [qQ,List.all_nil,hb]; rfl
 ·have hc' : ¬ k < xs.length:=by simpa using hc
  simp -implicitDefEqProofs only [BC,BA,BJ,DW,A8,EG,EY,EZ,CJ,AY,BB,AO,AQ,AL,BD,AX,AC,AA,AU,BH,A7,↓reduceIte,jA,jB]
  refine ⟨?_,trivial⟩
  rw [jW (by omega)] at hin
  rw [qY.2 (by simpa using hin)]
theorem QJ (G:Nat→AV) (xs:List Is) (m:SM) (fid:FuncId) (caps:List AV) (p:Is→Bool) (h:Hp) (hl:xs.length≤1099511627776)
  (hf : ∀ r,PCall (En G) fid (.sl r.m 1 (r.l.map qencI) :: caps) h (.bool (p r))) :
  PCall (En G) 88 [.sl m 1 (xs.map encL),.fn (.func fid) [] caps] h (.bool (xs.any p)):=by
 refine acN Tryz.func88 rfl ?_
 show awp _ _ _ _ _ (D8 _ [.tmp 4] _)
 simp -implicitDefEqProofs only [BC,BA,A8,AY,BB,AO,AQ,AL,BD,AX,AC,AA,AZ,AU,BU,BM,BG,A7,BZ,BO,BF,BL,jE,jD,jF,↓reduceIte,jC,jA,jB,enP]
 refine (AKB G xs m fid caps p h hl hf).use ?_
 simp -implicitDefEqProofs only [BJ,A8,CJ,AY,BB,AO,AQ,AL,BD,AX,AC,AA,AZ,AU,BH,A7,BQ,AB,FX,↓reduceIte,jA,jB,enP]
 refine ⟨?_,trivial⟩
 cases hx:xs.findIdx? p with
 | some i =>
   obtain ⟨h1,h2,_⟩:=qX.1 hx
   have:xs.any p=true:=qC.2 ⟨xs[i],by simp,h2⟩
   simp [this]
 | none =>
   have:xs.any p=false:=by
    rw [qY] at hx
    rw [wS]; intro x hx2; simp [hx x hx2]
   simp [this]
theorem AGO (G:Nat→AV) (ns:List Nat) (s:SM) (b:Nat) (r:Is) (h:Hp) (hb:h[b]? = some (.live 1 [[.sl s 1 (ns.map JH)]])) (hn:ns.length≤1048576) :
  PCall (En G) 89 [.sl r.m 1 (r.l.map qencI),.ptr b 0 0] h (.bool (!J3 ns r.l)):=by
 refine acN Tryz.func89 rfl ?_
 show awp _ _ _ _ _ (D8 _ [.tmp 3] _)
 simp -implicitDefEqProofs only [BC,BA,A8,AY,BB,AO,AQ,AL,BD,AX,AC,AA,AZ,AU,BU,BM,BG,A7,BX,BZ,BO,AB,BF,BL,jE,jD,jF,↓reduceIte,jC,jA,jB,enP,JF OA hb]
 refine (inside_prog G ns r.l s r.m h hn).use ?_
 simp -implicitDefEqProofs only [BJ,A8,CJ,AY,BB,AO,AQ,AL,BD,AX,AC,AA,AZ,A7,GU,AB,EP,↓reduceIte,jA,jB]
 exact ⟨trivial,trivial⟩
def AA2 (n:Nat):Option Int→List Int→Bool
 | _,[]=>true
 | o,p :: ps=>(decide (0≤p) && decide (p < (n:Int)) && (match o with | some q=>decide (q < p) | none=>true)) && AA2 n (some p) ps
def prev (l:List Int) (k:Nat):Option Int:=match k with
 | 0=>none
 | k+1=>l[k]?
theorem AR8 (n:Nat) (l:List Int) (k:Nat) (hk:k < l.length):AA2 n (prev l k) (l.drop k)=((decide (0≤l[k]) && decide (l[k] < (n:Int)) && (match prev l k with | some q=>decide (q < l[k]) | none=>true)) && AA2 n (prev l (k+1)) (l.drop (k+1))):=by
 rw [zQ hk]
 have:prev l (k+1)=some l[k]:=by unfold prev; exact jL hk
 rw [this]; rfl
theorem ZE {m:Mo} : ∀ {l:List Int} {o:Option Int},AA2 m.pts.length o l=true→Here m l
 | [],_,_=>fun p hp=>by cases hp
 | x :: l,o,h=>by
   simp only [AA2,jU,decide_eq_true_eq] at h
   intro p hp
   cases qI.1 hp with
   | inl e=>subst e; exact ⟨h.1.1.1,h.1.1.2⟩
   | inr e=>exact ZE h.2 p e
def KE (m:Mo) (c:Cr):Int :=
 if IB c.name=false then 7 else if c.pts.length < 2∨4 < c.pts.length then 1 else if AA2 m.pts.length none c.pts=false then 1 else
  if 256 < JO (szs m c.pts)∨256 < c.excl.length then 2 else if (c.excl.any fun x => !J3 (szs m c.pts) x.l) then 1 else 0
structure CrOk (c:Cr):Prop where
 name:c.name.size≤1048576
 pts:c.pts.length≤1048576
 excl:c.excl.length≤1048576
 each : ∀ x∈c.excl,x.l.length≤1048576
def Full (m:Mo):Prop := ∀ p∈m.pts,1≤p.bins.length∧p.bins.length≤64
theorem Full.szs {m:Mo} {l:List Int} (hf:Full m) (hh:Here m l) : ∀ n∈szs m l,1≤n∧n≤64:=by
 intro n hn
 obtain ⟨p,hp,rfl⟩:=List.mem_map.1 hn
 obtain ⟨h0,h1⟩:=hh p hp
 have hlt:p.toNat < m.pts.length:=by omega
 have:JQ m p=(m.pts[p.toNat]).bins:=by unfold JQ; rw [jL hlt]
 rw [this]
 exact hf _ (jO hlt)
theorem A8J (h:Hp):JY Tryz.prog h 26=some (.ptr h.length 0 0,h ++ [.live 1 [[.sl .nil 0 []]]]):=JL (row := [.sl .nil 0 []]) (by kernel_rfl)
theorem ldM {h:Hp} {b:Nat} {m:Mo} (hb:h[b]? = some (.live 2 [EE m])):DX Tryz.prog h 25 (.ptr b 0 0)=some (.agg (EE m)):=by
 rw [G8 A6Z A2B hb rfl (by rw [AV1]; exact jK 2)]; rfl
theorem ldC {h:Hp} {b:Nat} {c:Cr} (hb:h[b]? = some (.live 3 [G6 c])):DX Tryz.prog h 69 (.ptr b 0 0)=some (.agg (G6 c)):=by
 rw [G8 AOH AGH hb rfl (by rw [MH]; exact jK 3)]; rfl
theorem AN0 (G:Nat→AV) (hG:GOk G) (m:Mo) (c:Cr) (hc:CrOk c) (hf:Full m) (h:Hp):PCall (En G) 53 [.agg (EE m),.agg (G6 c)] h (.int .i64 (KE m c)):=by
 refine ACalls.pure0 rfl ?_
 have hc1:=hc.name
 have hc2:=hc.pts
 have hc3:=hc.excl
 refine acN Tryz.func53 rfl ?_
 show awp _ _ _ _ _ (D8 _ [.tmp 4] _)
 have gm:(h ++ [ABlk.live 2 [EE m]] ++ [ABlk.live 3 [G6 c]])[h.length]? = some (.live 2 [EE m]):=CU (CW _ _)
 have gc:(h ++ [ABlk.live 2 [EE m]] ++ [ABlk.live 3 [G6 c]])[(h ++ [ABlk.live 2 [EE m]]).length]? = some (.live 3 [G6 c]):=CW _ _
 have hx : ∃ x,h ++ [ABlk.live 2 [EE m]] ++ [ABlk.live 3 [G6 c]]=h ++ x:=⟨_,zI _ _ _⟩
 have hlt:h.length < (h ++ [ABlk.live 2 [EE m]]).length:=by simp
 simp -implicitDefEqProofs only [BC,BA,A8,AY,BB,AO,AQ,AL,BD,AX,AC,AA,AZ,AU,BH,A7,FM,BX,BN,CB,AB,BF,BL,↓reduceIte,jC,jM,jA,jB,enP,ANM,bxM,bxC]
 generalize h ++ [ABlk.live 2 [EE m]] ++ [ABlk.live 3 [G6 c]]=H at gm gc hx ⊢
 generalize (h ++ [ABlk.live 2 [EE m]]).length=cb at gc hlt ⊢
 have lm:DX Tryz.prog H 22 (.ptr h.length 0 0)=some (.sl m.pm 6 (m.pts.map F9)):=by rw [DJ Z7 gm (row:=EE m) rfl,SE]
 have lc0:DX Tryz.prog H 9 (.ptr cb 0 0)=some (.str c.name):=by rw [DJ ag9 gc (row:=G6 c) rfl,AQB]
 have lc1:DX Tryz.prog H 26 (.ptr cb 0 1)=some (.sl c.pm 1 (c.pts.map qencI)):=by rw [DJ OA gc (row:=G6 c) rfl,U2]
 have lc2:DX Tryz.prog H 67 (.ptr cb 0 2)=some (.sl c.xm 1 (c.excl.map encL)):=by rw [DJ TR gc (row:=G6 c) rfl,AQA]
 simp -implicitDefEqProofs only [AY,AO,AQ,AL,BD,AX,AC,AA,AZ,BU,BZ,BO,AB,jE,jD,jF,↓reduceIte,jA,jB,lc0]
 refine (NU G hG.kw c.name _ (by omega)).use ?_
 simp -implicitDefEqProofs only [BI,A8,AY,BB,AO,AQ,AL,BD,AX,AC,AA,AZ,GU,AB,EP,↓reduceIte,jA,jB]
 cases h1:IB c.name
 ·simp -implicitDefEqProofs only [BC,BA,BJ,A8,CQ,CJ,CZ,AY,BB,AO,AQ,AL,BD,AX,AC,AA,AU,BH,A7,↓reduceIte,jA,jB]
  exact ⟨by unfold KE; rw [if_pos h1],hx⟩
 have h1' : ¬ IB c.name=false:=by rw [h1]; decide
 simp -implicitDefEqProofs only [BC,BA,BR,A8,DI,AY,BK,BV,CO,AO,AQ,AL,BD,AX,AC,AA,AZ,AU,BH,BG,BX,BQ,BN,D6,AB,C9,↓reduceIte,jC,jG,jA,jV,jB,enP,KH,NH,lc1,jI]
 refine JE (fun h2 => ?_) (fun h2 => ?_)
 ·simp -implicitDefEqProofs only [BC,BA,BJ,BI,A8,CQ,CJ,CZ,AY,BB,BK,BV,CO,FI,AO,AQ,AL,BD,AX,AC,AA,EK,AZ,AU,BH,BM,A7,CP,DL,↓reduceIte,jC,jA,jB,h2]
  exact ⟨by unfold KE; rw [if_neg h1',if_pos (.inl (by simp at h2; omega))],hx⟩
 simp -implicitDefEqProofs only [BI,A8,AY,BB,BK,BV,CO,EF,AO,AQ,AL,BD,AX,AC,AA,AZ,AU,BH,BM,CP,DN,BX,BQ,BN,D6,AB,FD,↓reduceIte,jC,jG,jA,jB,enP,KH,NH,h2,lc1,jI]
 refine CV (fun h3 => ?_) (fun h3 => ?_)
 ·simp -implicitDefEqProofs only [BC,BA,BJ,A8,CQ,CJ,AY,BB,AO,AQ,AL,BD,AX,AC,AA,AU,BH,A7,↓reduceIte,jA,jB]
  exact ⟨by unfold KE; rw [if_neg h1',if_pos (.inr (by simp at h3; omega))],hx⟩
 have h23 : ¬ (c.pts.length < 2∨4 < c.pts.length):=by simp at h2 h3; omega
 simp -implicitDefEqProofs only [BC,BP,BA,BR,A8,AY,BB,AO,AQ,AL,BD,AX,AC,AA,AZ,AU,BH,BG,BX,BN,D6,AB,↓reduceIte,jC,jG,jA,jB,enP,KH,NH,lc1,jI]
 refine JA 0 (fun F H'=>F 2 = .ptr h.length 0 0∧F 3 = .ptr cb 0 0∧H'=H∧AA2 m.pts.length none c.pts=true) (fun F H'=>F 4 = .int .i64 1∧H'=H∧AA2 m.pts.length none c.pts=false) ?_ ?_ ?_
 ·refine DY (fun n F H' => ∃ k,n+k=c.pts.length∧F 2 = .ptr h.length 0 0∧F 3 = .ptr cb 0 0∧F 23 = .sl c.pm 1 (c.pts.map qencI)∧F 24 = .int .i64 c.pts.length∧F 25 = .int .i64 (k:Nat)∧H'=H∧AA2 m.pts.length none c.pts=AA2 m.pts.length (prev c.pts k) (c.pts.drop k)) c.pts.length ⟨0,by simp,by simp -implicitDefEqProofs only [AA,↓reduceIte,jC],by simp -implicitDefEqProofs only [AA,↓reduceIte,jC],by simp -implicitDefEqProofs only [AA,↓reduceIte,jC],by simp -implicitDefEqProofs only [AA,↓reduceIte,jC],by simp -implicitDefEqProofs only [AA,↓reduceIte]; rfl,rfl,rfl⟩ ?_
  rintro n F H' ⟨k,hk,f2,f3,f23,f24,f25,rfl,hi⟩
  simp -implicitDefEqProofs only [BC,BA,BI,A8,AY,BB,AO,AQ,AL,BD,AX,AC,AA,AZ,BQ,AB,C9,↓reduceIte,jA,jB,enP,f24,f25]
  refine CV (fun hlt => ?_) (fun hlt => ?_)
  ·have hk':k < c.pts.length:=by simpa using hlt
   rw [AR8 _ _ _ hk'] at hi
   simp -implicitDefEqProofs only [BC,BP,BA,BR,A8,AY,BB,BK,BV,CO,AO,AQ,AL,BD,AX,AC,AA,AZ,AU,BH,BG,A7,BX,BQ,CG,AB,C9,↓reduceIte,jC,jA,jB,enP,JS,f2,f3,f23,f25,D7 hk',DZ ag3 hk',encI0]
   refine JE (fun ha => ?_) (fun ha => ?_)
   ·simp -implicitDefEqProofs only [BC,BA,BJ,BI,A8,CQ,ED,RI,F7,CZ,AY,BB,BK,BV,CO,FI,UA,AO,AQ,AL,BD,AX,AC,AA,EK,AZ,AU,BH,BM,BG,A7,CP,DL,↓reduceIte,jC,jA,jB,ha]
    have:decide (0≤c.pts[k])=false:=by simp at ha ⊢; omega
    exact ⟨trivial,trivial,by rw [hi,this]; rfl⟩
   have ha':decide (0≤c.pts[k])=true:=by simp at ha ⊢; omega
   simp -implicitDefEqProofs only [AY,BK,BV,CO,EF,AO,AQ,AL,BD,AX,AC,AA,AZ,AU,BM,BG,CP,DN,BX,BQ,BN,D6,AB,FX,↓reduceIte,jC,jM,jA,jB,enP,UQ,JV,ha,f2,lm,jI]
   refine JE (fun hb => ?_) (fun hb => ?_)
   ·simp -implicitDefEqProofs only [BC,BA,BJ,BI,A8,CQ,ED,RI,F7,CZ,AY,BB,BK,BV,CO,FI,UA,AO,AQ,AL,BD,AX,AC,AA,EK,AZ,AU,BH,BM,A7,CP,DL,↓reduceIte,jC,jA,jB,hb]
    have:decide (c.pts[k] < (m.pts.length:Int))=false:=by simp at hb ⊢; omega
    exact ⟨trivial,trivial,by rw [hi,this,ha']; rfl⟩
   have hb':decide (c.pts[k] < (m.pts.length:Int))=true:=by simp at hb ⊢; omega
   rw [ha',hb'] at hi
   simp only [Bool.true_and] at hi
   cases k with
   | zero =>
     have hz:decide ((((0:Nat):Int)) > 0)=false:=by decide
     simp -implicitDefEqProofs only [BA,BR,BI,A8,EH,ER,DI,AY,BB,BK,BV,CO,EF,JD,AO,AQ,AL,BD,AX,AC,AA,EK,AZ,AU,BH,BM,BG,CP,DN,BQ,AB,DK,FD,↓reduceIte,jC,jG,jA,jB,enP,hb,hz,f25,wrap_succ (show 0 < 9223372036854775807 by omega)]
     exact ⟨n - 1,by omega,1,by omega,f2,f3,f23,f24,rfl,trivial,by rw [hi]; rfl⟩
   | succ k =>
     have hz:decide ((((k+1:Nat):Int)) > 0)=true:=by simp
     have hw:IntKind.i64.wrap (((k+1:Nat):Int) - 1)=(k:Int):=by rw [wrap_i64 (by omega) (by omega)]; omega
     have hk2:k < c.pts.length:=by omega
     have hpv:prev c.pts (k+1)=some c.pts[k]:=by unfold prev; exact jL hk2
     rw [hpv] at hi
     simp -implicitDefEqProofs only [BI,A8,AY,BB,BK,BV,CO,FY,EF,AO,AQ,AL,BD,AX,AC,AA,AZ,AU,BH,BM,BG,CP,DL,DN,BX,BQ,BN,CG,AB,JK,IJ,FD,↓reduceIte,jC,jG,jA,jB,enP,JS,NH,hb,hz,f3,lc1,hw,D7 hk2,DZ ag3 hk2,encI0]
     refine CV (fun hd => ?_) (fun hd => ?_)
     ·simp -implicitDefEqProofs only [BC,BA,BJ,A8,CQ,ED,RI,F7,AY,BB,AO,AQ,AL,BD,AX,AC,AA,AU,BH,A7,↓reduceIte,jA,jB]
      have:decide (c.pts[k] < c.pts[k+1])=false:=by simp at hd ⊢; omega
      exact ⟨trivial,trivial,by rw [hi]; simp only [this]; rfl⟩
     ·simp -implicitDefEqProofs only [BA,BR,A8,EH,ER,AY,BB,AO,AQ,AL,BD,AX,AC,AA,AZ,AU,BH,BG,BQ,AB,DK,↓reduceIte,jC,jA,jB,enP,f25,wrap_succ (show k+1 < 9223372036854775807 by omega)]
      have:decide (c.pts[k] < c.pts[k+1])=true:=by simp at hd ⊢; omega
      exact ⟨n - 1,by omega,k+1+1,by omega,f2,f3,f23,f24,rfl,trivial,by rw [hi]; simp only [this]; rfl⟩
  ·have hk' : ¬ k < c.pts.length:=by simpa using hlt
   simp -implicitDefEqProofs only [DW,EG,NG,EZ,AA,↓reduceIte,jC]
   exact ⟨f2,f3,trivial,by rw [hi,zG (by omega)]; rfl⟩
 ·rintro F H' ⟨f2,f3,rfl,hi⟩
  have hh:=ZE hi
  have hi' : ¬ AA2 m.pts.length none c.pts=false:=by rw [hi]; decide
  simp -implicitDefEqProofs only [BC,BA,A8,EY,AY,AO,AQ,AL,BD,AX,AC,AA,AZ,BU,BX,BZ,BO,AB,jE,jD,jF,↓reduceIte,jC,jA,jB,enP,f2,f3,ldM gm,ldC gc]
  refine (WB G m c _ hh (by omega)).use ?_
  have hsz:(szs m c.pts).length≤4:=by unfold szs; simp; omega
  have hst:=QS (t:=26) (v := .sl .nil 0 []) (u := .sl (nm (szs m c.pts)) 1 ((szs m c.pts).map JH)) AIJ (AXE _ _ _) (CW H' (.live 1 [[.sl .nil 0 []]]))
  rw [AGG] at hst
  simp -implicitDefEqProofs only [BC,BP,BA,A8,AY,BB,AO,AQ,AL,BD,AX,AC,ES,AA,AZ,BU,FO,BX,EI,BZ,BO,CB,AB,DT,jE,jD,jF,↓reduceIte,jC,jA,jB,enP,jT,A8J,hst,JF OA (CW H' _)]
  refine (XL G _ _ _ (fun n hn=>(hf.szs hh n hn).2) hsz).use ?_
  have hx2 : ∃ x,H' ++ [ABlk.live 1 [[AV.sl (nm (szs m c.pts)) 1 ((szs m c.pts).map JH)]]]=h ++ x:=by
   obtain ⟨x,hx⟩:=hx
   exact ⟨x ++ _,by rw [hx,zI]⟩
  have lc2' : ∀ x,DX Tryz.prog (H' ++ [x]) 67 (.ptr cb 0 2)=some (.sl c.xm 1 (c.excl.map encL)):=fun x=>by rw [DJ TR (CU gc) (row:=G6 c) rfl,AQA]
  simp -implicitDefEqProofs only [AY,BK,BV,CO,AO,AQ,AL,BD,AX,AC,AA,AZ,AU,BH,BG,BQ,AB,FD,↓reduceIte,jA,jB,enP]
  refine JE (fun ha => ?_) (fun ha => ?_)
  ·simp -implicitDefEqProofs only [BC,BA,BJ,BI,A8,CQ,ED,CJ,CZ,AY,BB,BK,BV,CO,FI,AO,AQ,AL,BD,AX,AC,AA,EK,AZ,AU,BH,BM,A7,CP,DL,↓reduceIte,jC,jA,jB,ha]
   exact ⟨by unfold KE; rw [if_neg h1',if_neg h23,if_neg hi',if_pos (.inl (by simp at ha; omega))],hx2⟩
  simp -implicitDefEqProofs only [BI,A8,AY,BB,BK,BV,CO,EF,AO,AQ,AL,BD,AX,AC,AA,AZ,AU,BH,BM,A7,CP,DN,BX,BQ,BN,D6,AB,FD,↓reduceIte,jC,jG,jA,jB,enP,AZD,AC7,ha,f3,lc2',jI]
  refine CV (fun hb => ?_) (fun hb => ?_)
  ·simp -implicitDefEqProofs only [BC,BA,BJ,A8,CQ,ED,CJ,AY,BB,AO,AQ,AL,BD,AX,AC,AA,AU,BH,A7,↓reduceIte,jA,jB]
   exact ⟨by unfold KE; rw [if_neg h1',if_neg h23,if_neg hi',if_pos (.inr (by simp at hb; omega))],hx2⟩
  have hab : ¬ (256 < JO (szs m c.pts)∨256 < c.excl.length):=by simp at ha hb; omega
  simp -implicitDefEqProofs only [BC,BA,AY,AO,AQ,AL,BD,AX,AC,AA,AZ,BU,BX,G9,BN,BZ,BO,AB,jE,jD,jF,↓reduceIte,jC,jG,jA,jB,enP,AC7,f3,lc2']
  refine (QJ G c.excl c.xm 89 _ (fun x => !J3 (szs m c.pts) x.l) _ (by omega) fun r=>AGO G _ _ _ r _ (CW H' _) (by omega)).use ?_
  simp -implicitDefEqProofs only [BI,A8,AY,BB,AO,AQ,AL,BD,AX,AC,AA,AZ,A7,↓reduceIte,jA,jB]
  cases he:c.excl.any fun x => !J3 (szs m c.pts) x.l
  ·simp -implicitDefEqProofs only [BC,BA,BR,BJ,A8,EH,CJ,DI,AY,BB,AO,AQ,AL,BD,AX,AC,AA,AU,BH,A7,↓reduceIte,jA,jB]
   exact ⟨by unfold KE; rw [if_neg h1',if_neg h23,if_neg hi',if_neg hab,he]; rfl,hx2⟩
  ·simp -implicitDefEqProofs only [BC,BA,BJ,A8,CQ,ED,CJ,CZ,AY,BB,AO,AQ,AL,BD,AX,AC,AA,AU,BH,A7,↓reduceIte,jA,jB]
   exact ⟨by unfold KE; rw [if_neg h1',if_neg h23,if_neg hi',if_neg hab,he]; rfl,hx2⟩
 ·rintro F H' ⟨f4,rfl,hi⟩
  simp -implicitDefEqProofs only [CQ,ED,CJ,f4]
  exact ⟨by unfold KE; rw [if_neg h1',if_neg h23,if_pos hi],hx⟩
theorem QR (m:Mo) (l:List Int):(szs m l).length=l.length:=by unfold szs; simp
structure Two (h H:Hp) (m:Mo) (c:Cr) (cb:Nat):Prop where
 gm:H[h.length]? = some (.live 2 [EE m])
 gc:H[cb]? = some (.live 3 [G6 c])
 hx : ∃ x,H=h ++ x
theorem Two.lm {h H:Hp} {m:Mo} {c:Cr} {cb:Nat} (t:Two h H m c cb):DX Tryz.prog H 22 (.ptr h.length 0 0)=some (.sl m.pm 6 (m.pts.map F9)):=by rw [DJ Z7 t.gm (row:=EE m) rfl,SE]
theorem Two.l0 {h H:Hp} {m:Mo} {c:Cr} {cb:Nat} (t:Two h H m c cb):DX Tryz.prog H 9 (.ptr cb 0 0)=some (.str c.name):=by rw [DJ ag9 t.gc (row:=G6 c) rfl,AQB]
theorem Two.l1 {h H:Hp} {m:Mo} {c:Cr} {cb:Nat} (t:Two h H m c cb):DX Tryz.prog H 26 (.ptr cb 0 1)=some (.sl c.pm 1 (c.pts.map qencI)):=by rw [DJ OA t.gc (row:=G6 c) rfl,U2]
theorem Two.l2 {h H:Hp} {m:Mo} {c:Cr} {cb:Nat} (t:Two h H m c cb):DX Tryz.prog H 67 (.ptr cb 0 2)=some (.sl c.xm 1 (c.excl.map encL)):=by rw [DJ TR t.gc (row:=G6 c) rfl,AQA]
theorem Two.mk' (h:Hp) (m:Mo) (c:Cr):Two h (h ++ [.live 2 [EE m]] ++ [.live 3 [G6 c]]) m c (h ++ [ABlk.live 2 [EE m]]).length:=⟨CU (CW _ _),CW _ _,⟨_,zI _ _ _⟩⟩
structure MoOk (m:Mo):Prop where
 np:m.pts.length≤1048576
 nc:m.crs.length≤1048576
 pts : ∀ p∈m.pts,PtOk p
 crs : ∀ c∈m.crs,CrOk c
def IA (m:Mo):Int :=
 if 16 < m.pts.length+m.crs.length then 2 else if L6 I4 m.pts≠0 then L6 I4 m.pts else if TY (m.pts.map (·.name)) then 8 else
  if L6 (KE m) m.crs≠0 then L6 (KE m) m.crs else if TY (m.crs.map (·.name)) then 8 else 0
theorem OH {α:Type} (f:α→Int) : ∀ {xs:List α},L6 f xs=0→∀ x∈xs,f x=0
 | [],_,_,hx=>by cases hx
 | y :: ys,h,x,hx=>by
   simp only [L6] at h
   split at h
   ·rename_i h0
    cases qI.1 hx with
    | inl e=>subst e; exact h0
    | inr e=>exact OH f h x e
   ·rename_i h0; exact absurd h h0
theorem AAH {p:Pt} (h:I4 p=0):1≤p.bins.length∧p.bins.length≤64:=by
 unfold I4 at h
 split at h
 ·cases h
 ·split at h
  ·rename_i h2; exact absurd h h2
  ·split at h
   ·cases h
   ·split at h
    ·cases h
    ·omega
theorem full_of {m:Mo} (h:L6 I4 m.pts=0):Full m:=fun p hp=>AAH (OH _ h p hp)
theorem A0X (h:Hp):JY Tryz.prog h 51=some (.ptr h.length 0 0,h ++ [.live 6 [[.str ⟨#[]⟩,.int .i64 0,.int .i64 0,.str ⟨#[]⟩,.sl .nil 0 [],.sl .nil 0 []]]]):=JL (row := [.str ⟨#[]⟩,.int .i64 0,.int .i64 0,.str ⟨#[]⟩,.sl .nil 0 [],.sl .nil 0 []]) (by kernel_rfl)
theorem AX9 (h:Hp) (p:Pt) (row:List AV) (hr:row.length=6):FB Tryz.prog (h ++ [.live 6 [row]]) 51 (.ptr h.length 0 0) (.agg (F9 p))=some (h ++ [.live 6 [F9 p]]):=by
 rw [NM (PN (ZR p)) (by rw [I7]; exact AAY) (by rw [I7,hr]; exact jK _)]
 have:splice row 0 (F9 p)=F9 p:=by unfold splice; simp [I7,hr]
 rw [this]
theorem ldP {h:Hp} {b:Nat} {p:Pt} (hb:h[b]? = some (.live 6 [F9 p])):DX Tryz.prog h 51 (.ptr b 0 0)=some (.agg (F9 p)):=by
 rw [G8 AEV AAY hb rfl (by rw [I7]; exact jK 6),List.drop_zero,jW (by rw [I7]; exact jK 6)]
theorem A0W (h:Hp):JY Tryz.prog h 69=some (.ptr h.length 0 0,h ++ [.live 3 [[.str ⟨#[]⟩,.sl .nil 0 [],.sl .nil 0 []]]]):=JL (row := [.str ⟨#[]⟩,.sl .nil 0 [],.sl .nil 0 []]) (by kernel_rfl)
theorem AX7 (h:Hp) (c:Cr) (row:List AV) (hr:row.length=3):FB Tryz.prog (h ++ [.live 3 [row]]) 69 (.ptr h.length 0 0) (.agg (G6 c))=some (h ++ [.live 3 [G6 c]]):=by
 rw [NM (PN rfl) (by rw [MH]; exact AGH) (by rw [MH,hr]; exact jK _)]
 have:splice row 0 (G6 c)=G6 c:=by unfold splice; simp [MH,hr]
 rw [this]
theorem ACC (G:Nat→AV) (hG:GOk G) (m:Mo) (hm:MoOk m) (h:Hp):PCall (En G) 27 [.agg (EE m)] h (.int .i64 (IA m)):=by
 refine ACalls.pure0 rfl ?_
 have hm1:=hm.np
 have hm2:=hm.nc
 refine acN Tryz.func27 rfl ?_
 show awp _ _ _ _ _ (D8 _ [.tmp 2] _)
 have hw:IntKind.i64.wrap ((m.pts.length:Int)+(m.crs.length:Int))=(m.pts.length:Int)+(m.crs.length:Int):=wrap_i64 (by omega) (by omega)
 simp -implicitDefEqProofs only [BC,BA,BI,A8,AY,BB,AO,AQ,AL,BD,AX,AC,AA,AZ,AU,BH,A7,FM,BX,BQ,BN,D6,CB,AB,DK,FD,BF,↓reduceIte,jC,jM,jG,jA,jB,enP,UQ,AEF,JV,L8,bxM,DV Z7,DV AD2,SE,U1,jI,hw]
 refine CV (fun h1 => ?_) (fun h1 => ?_)
 ·simp -implicitDefEqProofs only [BC,BA,BJ,A8,CQ,CJ,AY,BB,AO,AQ,AL,BD,AX,AC,AA,AU,BH,A7,↓reduceIte,jA,jB]
  exact ⟨by unfold IA; rw [if_pos (by simp at h1; omega)],_,rfl⟩
 have h1' : ¬ 16 < m.pts.length+m.crs.length:=by simp at h1; omega
 have hme:IA m=if L6 I4 m.pts≠0 then L6 I4 m.pts else if TY (m.pts.map (·.name)) then 8 else if L6 (KE m) m.crs≠0 then L6 (KE m) m.crs else if TY (m.crs.map (·.name)) then 8 else 0:=by
  unfold IA; rw [if_neg h1']
 have lm0 : ∀ H:Hp,H[h.length]? = some (.live 2 [EE m])→DX Tryz.prog H 22 (.ptr h.length 0 0)=some (.sl m.pm 6 (m.pts.map F9)):=fun H hH=>by rw [DJ Z7 hH (row:=EE m) rfl,SE]
 have lm1 : ∀ H:Hp,H[h.length]? = some (.live 2 [EE m])→DX Tryz.prog H 23 (.ptr h.length 0 1)=some (.sl m.cm 3 (m.crs.map G6)):=fun H hH=>by rw [DJ AD2 hH (row:=EE m) rfl,U1]
 simp -implicitDefEqProofs only [BC,BP,BA,BR,A8,AY,BB,AO,AQ,AL,BD,AX,AC,AA,AZ,AU,BH,BG,BX,BN,D6,AB,↓reduceIte,jC,jM,jA,jB,enP,UQ,JV,DV Z7,SE,jI]
 refine JA 0 (fun F H=>F 1 = .ptr h.length 0 0∧H[h.length]? = some (.live 2 [EE m])∧(∃ x,H=h ++ x)∧L6 I4 m.pts=0) (fun F H=>F 2 = .int .i64 (IA m)∧∃ x,H=h ++ x) ?_ ?_ ?_
 ·refine DY (fun n F H => ∃ k,n+k=m.pts.length∧F 1 = .ptr h.length 0 0∧F 18 = .sl m.pm 6 (m.pts.map F9)∧F 19 = .int .i64 m.pts.length∧F 20 = .int .i64 (k:Nat)∧H[h.length]? = some (.live 2 [EE m])∧(∃ x,H=h ++ x)∧L6 I4 m.pts=L6 I4 (m.pts.drop k)) m.pts.length ⟨0,by simp,by simp -implicitDefEqProofs only [AA,↓reduceIte,jC],by simp -implicitDefEqProofs only [AA,↓reduceIte,jC],by simp -implicitDefEqProofs only [AA,↓reduceIte,jC],by simp -implicitDefEqProofs only [AA,↓reduceIte]; rfl,CW _ _,⟨_,rfl⟩,rfl⟩ ?_
  rintro n F H ⟨k,hk,f1,f18,f19,f20,hb,⟨x,hx⟩,hf⟩
  simp -implicitDefEqProofs only [BC,BA,BI,A8,AY,BB,AO,AQ,AL,BD,AX,AC,AA,AZ,BQ,AB,C9,↓reduceIte,jA,jB,enP,f19,f20]
  refine CV (fun hc => ?_) (fun hc => ?_)
  ·have hk':k < m.pts.length:=by simpa using hc
   have hs:=VH I4 m.pts k hk'
   simp -implicitDefEqProofs only [BC,BP,BA,BR,A8,AY,BB,AO,AQ,AL,BD,AX,AC,ES,AA,AZ,BU,FO,BX,EI,CG,BZ,BO,CB,AB,DT,jE,jD,jF,↓reduceIte,jC,jA,jB,enP,WQ,jT,f18,f20,D7 hk',FP AEV AAY I7 hk',A0X,AX9 _ _ [.str ⟨#[]⟩,.int .i64 0,.int .i64 0,.str ⟨#[]⟩,.sl .nil 0 [],.sl .nil 0 []] rfl,ldP (CW H (.live 6 [F9 m.pts[k]]))]
   refine (AB4 G hG m.pts[k] (hm.pts _ (jO hk')) _).use ?_
   simp -implicitDefEqProofs only [BC,BA,BI,A8,AY,BB,AO,AQ,AL,BD,AX,AC,AA,AZ,AU,BH,BG,A7,BQ,AB,ET,↓reduceIte,jA,jB,enP]
   refine CV (fun hv => ?_) (fun hv => ?_)
   ·simp -implicitDefEqProofs only [BC,BA,BJ,A8,CQ,ED,RI,F7,AY,BB,AO,AQ,AL,BD,AX,AC,AA,AZ,BG,A7,↓reduceIte,jC,jA,jB]
    have hv':I4 m.pts[k]≠0:=by simpa using hv
    have:L6 I4 m.pts=I4 m.pts[k]:=by rw [hf,hs,if_neg hv']
    exact ⟨by rw [hme,this,if_pos hv'],x ++ _,by rw [hx,zI]⟩
   ·have hv':I4 m.pts[k]=0:=by simpa using hv
    simp -implicitDefEqProofs only [BA,BR,A8,EH,ER,AY,BB,AO,AQ,AL,BD,AX,AC,AA,AZ,AU,BH,BG,BQ,AB,DK,↓reduceIte,jC,jA,jB,enP,f20,wrap_succ (show k < 9223372036854775807 by omega)]
    exact ⟨n - 1,by omega,k+1,by omega,f1,f18,f19,rfl,CU hb,⟨x ++ _,by rw [hx,zI]⟩,by rw [hf,hs,if_pos hv']⟩
  ·have hk' : ¬ k < m.pts.length:=by simpa using hc
   simp -implicitDefEqProofs only [DW,EG,NG,EZ,AA,↓reduceIte,jC]
   exact ⟨f1,hb,⟨x,hx⟩,by rw [hf,zG (by omega)]; rfl⟩
 ·rintro F H ⟨f1,hb,hx0,hf⟩
  have hfull:=full_of hf
  rw [hf,if_neg (fun hh=>hh rfl)] at hme
  simp -implicitDefEqProofs only [BC,BA,A8,EY,AY,AO,AQ,AL,BD,AX,AC,AA,AZ,BU,BX,BN,BZ,BO,AB,jE,jD,jF,↓reduceIte,jM,jA,jB,enP,JV,f1,lm0 _ hb]
  refine (AQ8 G m.pts m.pm H (by omega)).use ?_
  simp -implicitDefEqProofs only [BI,A8,BB,AC,AA,AZ,↓reduceIte]
  cases hd:TY (m.pts.map (·.name))
  case true =>
   simp -implicitDefEqProofs only [BC,BA,BJ,A8,CQ,CJ,CZ,AY,BB,AO,AQ,AL,BD,AX,AC,AA,AU,BH,A7,↓reduceIte,jA,jB]
   exact ⟨by rw [hme,hd]; rfl,hx0⟩
  rw [hd] at hme
  simp only [Bool.false_eq_true,if_false] at hme
  simp -implicitDefEqProofs only [BC,BP,BA,BR,A8,DI,AY,BB,AO,AQ,AL,BD,AX,AC,AA,AZ,AU,BH,BG,BX,BN,D6,AB,↓reduceIte,jC,jG,jA,jB,enP,AEF,L8,f1,lm1 _ hb,jI]
  refine JA 2 (fun F H=>F 1 = .ptr h.length 0 0∧H[h.length]? = some (.live 2 [EE m])∧(∃ x,H=h ++ x)∧L6 (KE m) m.crs=0) (fun F H=>F 2 = .int .i64 (IA m)∧∃ x,H=h ++ x) ?_ ?_ ?_
  ·refine DY (fun n F H => ∃ k,n+k=m.crs.length∧F 1 = .ptr h.length 0 0∧F 34 = .sl m.cm 3 (m.crs.map G6)∧F 35 = .int .i64 m.crs.length∧F 36 = .int .i64 (k:Nat)∧H[h.length]? = some (.live 2 [EE m])∧(∃ x,H=h ++ x)∧L6 (KE m) m.crs=L6 (KE m) (m.crs.drop k)) m.crs.length ⟨0,by simp,by simp -implicitDefEqProofs only [AA,↓reduceIte,jC,f1],by simp -implicitDefEqProofs only [AA,↓reduceIte,jC],by simp -implicitDefEqProofs only [AA,↓reduceIte,jC],by simp -implicitDefEqProofs only [AA,↓reduceIte]; rfl,hb,hx0,rfl⟩ ?_
   clear f1 hb hx0
   rintro n F H ⟨k,hk,f1,f34,f35,f36,hb,⟨x,hx⟩,hf⟩
   simp -implicitDefEqProofs only [BC,BA,BI,A8,AY,BB,AO,AQ,AL,BD,AX,AC,AA,AZ,BQ,AB,C9,↓reduceIte,jA,jB,enP,f35,f36]
   refine CV (fun hc => ?_) (fun hc => ?_)
   ·have hk':k < m.crs.length:=by simpa using hc
    have hs:=VH (KE m) m.crs k hk'
    simp -implicitDefEqProofs only [BC,BP,BA,BR,A8,AY,BB,AO,AQ,AL,BD,AX,AC,ES,AA,AZ,BU,FO,BX,EI,CG,BZ,BO,CB,AB,DT,jE,jD,jF,↓reduceIte,jC,jA,jB,enP,XZ,jT,f1,f34,f36,D7 hk',FP AOH AGH MH hk',A0W,AX7 _ _ [.str ⟨#[]⟩,.sl .nil 0 [],.sl .nil 0 []] rfl,ldC (CW H (.live 3 [G6 m.crs[k]])),ldM (CU (x := .live 3 [G6 m.crs[k]]) hb)]
    refine (AN0 G hG m m.crs[k] (hm.crs _ (jO hk')) hfull _).use ?_
    simp -implicitDefEqProofs only [BC,BA,BI,A8,AY,BB,AO,AQ,AL,BD,AX,AC,AA,AZ,AU,BH,BG,A7,BQ,AB,ET,↓reduceIte,jA,jB,enP]
    refine CV (fun hv => ?_) (fun hv => ?_)
    ·simp -implicitDefEqProofs only [BC,BA,BJ,A8,CQ,ED,RI,F7,AY,BB,AO,AQ,AL,BD,AX,AC,AA,AZ,BG,A7,↓reduceIte,jC,jA,jB]
     have hv':KE m m.crs[k]≠0:=by simpa using hv
     have:L6 (KE m) m.crs=KE m m.crs[k]:=by rw [hf,hs,if_neg hv']
     exact ⟨by rw [hme,this,if_pos hv'],x ++ _,by rw [hx,zI]⟩
    ·have hv':KE m m.crs[k]=0:=by simpa using hv
     simp -implicitDefEqProofs only [BA,BR,A8,EH,ER,AY,BB,AO,AQ,AL,BD,AX,AC,AA,AZ,AU,BH,BG,BQ,AB,DK,↓reduceIte,jC,jA,jB,enP,f36,wrap_succ (show k < 9223372036854775807 by omega)]
     exact ⟨n - 1,by omega,k+1,by omega,f1,f34,f35,rfl,CU hb,⟨x ++ _,by rw [hx,zI]⟩,by rw [hf,hs,if_pos hv']⟩
   ·have hk' : ¬ k < m.crs.length:=by simpa using hc
    simp -implicitDefEqProofs only [DW,EG,NG,EZ,AA,↓reduceIte,jC]
    exact ⟨f1,hb,⟨x,hx⟩,by rw [hf,zG (by omega)]; rfl⟩
  ·rintro F H ⟨f1,hb,hx,hf⟩
   rw [hf,if_neg (fun hh=>hh rfl)] at hme
   simp -implicitDefEqProofs only [BC,BA,A8,EY,AY,AO,AQ,AL,BD,AX,AC,AA,AZ,BU,BX,BN,BZ,BO,AB,jE,jD,jF,↓reduceIte,jG,jA,jB,enP,L8,f1,lm1 _ hb]
   refine (AQ9 G m.crs m.cm H (by omega)).use ?_
   simp -implicitDefEqProofs only [BI,A8,BB,AC,AA,AZ,↓reduceIte]
   cases hd:TY (m.crs.map (·.name))
   ·simp -implicitDefEqProofs only [BC,BA,BR,BJ,A8,CJ,DI,AY,BB,AO,AQ,AL,BD,AX,AC,AA,AU,BH,A7,↓reduceIte,jA,jB]
    exact ⟨by rw [hme,hd]; rfl,hx⟩
   ·simp -implicitDefEqProofs only [BC,BA,BJ,A8,CQ,CJ,CZ,AY,BB,AO,AQ,AL,BD,AX,AC,AA,AU,BH,A7,↓reduceIte,jA,jB]
    exact ⟨by rw [hme,hd]; rfl,hx⟩
  ·rintro F H ⟨f2,hx⟩
   simp -implicitDefEqProofs only [CQ,ED,CJ,f2]
   exact ⟨trivial,hx⟩
 ·rintro F H ⟨f2,hx⟩
  simp -implicitDefEqProofs only [CQ,ED,CJ,f2]
  exact ⟨trivial,hx⟩
def eqL (a b:List Int):Bool:=decide (a=b)
theorem AVW {a b:List Int} {k:Nat} (ha:k < a.length) (hb:k < b.length):eqL (a.drop k) (b.drop k)=(decide (a[k]=b[k]) && eqL (a.drop (k+1)) (b.drop (k+1))):=by
 rw [zQ ha,zQ hb]
 unfold eqL
 rw [decide_eq_decide.2 (Iff.of_eq (List.cons.injEq _ _ _ _)),Bool.decide_and]
theorem ADA (G:Nat→AV) (a b:List Int) (s t:SM) (h:Hp) (hl:b.length≤1099511627776):PCall (En G) 92 [.sl s 1 (a.map qencI),.sl t 1 (b.map qencI)] h (.bool (eqL a b)):=by
 refine acN Tryz.func92 rfl ?_
 show awp _ _ _ _ _ (D8 _ [.tmp 4] _)
 simp -implicitDefEqProofs only [BC,BA,BI,A8,AY,BB,AO,AQ,AL,BD,AX,AC,AA,AZ,AU,BM,BG,A7,BQ,D6,AB,ET,BF,BL,↓reduceIte,jC,jA,jB,enP,KH,jI]
 refine CV (fun h1 => ?_) (fun h1 => ?_)
 ·simp -implicitDefEqProofs only [BC,BA,BJ,A8,CQ,CJ,AY,BB,AO,AQ,AL,BD,AX,AC,AA,AU,BM,A7,↓reduceIte,jA,jB]
  have:eqL a b=false:=by
   unfold eqL; rw [decide_eq_false_iff_not]; intro e; subst e; simp at h1
  exact ⟨by rw [this],trivial⟩
 have hab:a.length=b.length:=by simp at h1; omega
 simp -implicitDefEqProofs only [BC,BP,BA,BR,A8,AY,BB,AO,AQ,AL,BD,AX,AC,AA,AZ,AU,BH,BG,D6,AB,BF,↓reduceIte,jC,jA,jB,enP,KH,jI]
 refine DY (fun n F H => ∃ k,n+k=a.length∧F 0 = .sl s 1 (a.map qencI)∧F 1 = .sl t 1 (b.map qencI)∧F 12 = .int .i64 a.length∧F 13 = .int .i64 (k:Nat)∧H=h∧eqL a b=eqL (a.drop k) (b.drop k)) a.length ⟨0,by simp,by simp -implicitDefEqProofs only [AA,BF,↓reduceIte,jC],by simp -implicitDefEqProofs only [AA,BF,BL,↓reduceIte,jC],by simp -implicitDefEqProofs only [AA,↓reduceIte,jC],by simp -implicitDefEqProofs only [AA,↓reduceIte]; rfl,rfl,rfl⟩ ?_
 rintro n F H ⟨k,hk,f0,f1,f12,f13,rfl,hi⟩
 simp -implicitDefEqProofs only [BC,BA,BI,A8,AY,BB,AO,AQ,AL,BD,AX,AC,AA,AZ,BQ,AB,C9,↓reduceIte,jA,jB,enP,f12,f13]
 refine CV (fun hc => ?_) (fun hc => ?_)
 ·have hk':k < a.length:=by simpa using hc
  have hkb:k < b.length:=by omega
  rw [AVW hk' hkb] at hi
  simp -implicitDefEqProofs only [BC,BP,BA,BR,A8,AY,BB,AO,AQ,AL,BD,AX,AC,AA,AZ,BG,A7,↓reduceIte,jC,jA,jB,f13]
  refine FN (by kernel_rfl) ?_
  simp -implicitDefEqProofs only [G5,EM,D9,FU,EQ,GH,FT,J7,EU,BI,A8,AO,AA,AZ,BX,BQ,CG,AB,ET,↓reduceIte,jC,jQ,jA,enP,JS,f0,f1,f13,D7 hk',D7 hkb,DZ ag3 hk',DZ ag3 hkb,encI0]
  refine CV (fun hd => ?_) (fun hd => ?_)
  ·simp -implicitDefEqProofs only [BC,BA,BJ,A8,CQ,ED,F7,CJ,AY,BB,AO,AQ,AL,BD,AX,AC,AA,AU,BM,A7,↓reduceIte,jA,jB]
   have:decide (a[k]=b[k])=false:=by simpa using hd
   exact ⟨by rw [hi,this]; rfl,trivial⟩
  ·simp -implicitDefEqProofs only [BA,BR,A8,EH,ER,AY,BB,AO,AQ,AL,BD,AX,AC,AA,AZ,AU,BH,BG,BQ,AB,DK,↓reduceIte,jC,jA,jB,enP,f13,wrap_succ (show k < 9223372036854775807 by omega)]
   have:decide (a[k]=b[k])=true:=by simpa using hd
   exact ⟨n - 1,by omega,k+1,by omega,f0,f1,f12,rfl,trivial,by rw [hi,this]; rfl⟩
 ·have hk' : ¬ k < a.length:=by simpa using hc
  simp -implicitDefEqProofs only [BC,BA,BJ,DW,A8,EG,EY,EZ,CJ,AY,BB,AO,AQ,AL,BD,AX,AC,AA,AU,BM,A7,↓reduceIte,jA,jB]
  exact ⟨by rw [hi,zG (by omega),zG (by omega)]; rfl,trivial⟩
def LM (n:Int):Bool:=decide (0≤n) && decide (n≤1099511627776)
def countB (n:Int) (may:Bool):Bool:=LM n && (may || n == 0)
theorem AK8 (G:Nat→AV) (b:Bin) (h:Hp):PCall (En G) 160 [.agg (GV b)] h (.bool (b.kind == 0)):=by
 refine ACalls.pure0 rfl ?_
 refine acN Tryz.func160 rfl ?_
 show awp _ _ _ _ _ (D8 _ [.tmp 2] _)
 simp -implicitDefEqProofs only [BC,BA,BJ,A8,CJ,AY,BB,AO,AQ,AL,BD,AX,AC,AA,AZ,AU,BH,BM,A7,FM,BX,BQ,BN,CB,AB,DR,BF,↓reduceIte,jC,jG,jA,jB,enP,TM,bxB,DV ag3,YI]
 exact ⟨trivial,_,rfl⟩
def TJ (m:Mo) (p b:Int):Int:=match (JQ m p)[b.toNat]? with
 | some x=>x.kind
 | none=>0
def MQ (m:Mo):List Int→List Int→Bool
 | p :: ps,b :: bs=>(TJ m p b == 0) && MQ m ps bs
 | _,_=>true
def VM (m:Mo) (c:Cr) (l:List Int):Bool:=MQ m c.pts l && !(c.excl.any fun x=>eqL x.l l)
theorem X3 {m:Mo} : ∀ {ps l:List Int},J3 (szs m ps) l=true→∀ (k:Nat) (hk:k < l.length) (hp:k < ps.length),0≤l[k]∧l[k] < ((JQ m ps[k]).length:Int)
 | p :: ps,b :: bs,h,k,hk,hp=>by
   simp only [szs,jE,J3,jU,decide_eq_true_eq] at h
   cases k with
   | zero=>exact h.1
   | succ k=>exact X3 (m:=m) (ps:=ps) h.2 k (by simpa using hk) (by simpa using hp)
 | [],b :: bs,h,k,hk,hp=>by simp at hp
 | _,[],h,k,hk,hp=>by simp at hk
theorem AAK (m:Mo) (ps l:List Int) (k:Nat) (hp:k < ps.length) (hk:k < l.length):MQ m (ps.drop k) (l.drop k)=((TJ m ps[k] l[k] == 0) && MQ m (ps.drop (k+1)) (l.drop (k+1))):=by
 rw [zQ hp,zQ hk]; rfl
theorem ACJ (m:Mo) (ps:List Int):MQ m ps []=true:=by cases ps <;> rfl
theorem AWV {m:Mo} {p b:Int} (h0:0≤b) (h1:b < ((JQ m p).length:Int)) (h:Hp) (s:SM):JG 4 h (.sl s 4 ((JQ m p).map GV)) (.int .i64 b)=some (.fptr 4 ((JQ m p).map GV) b.toNat 0) :=
 A1I h0 (by rw [jI]; exact h1)
theorem ALM {m:Mo} {p b:Int} (h0:0≤b) (h1:b < ((JQ m p).length:Int)):((JQ m p)[b.toNat]'(by omega)).kind=TJ m p b:=by
 unfold TJ; rw [jL (by omega)]
theorem AZX (G:Nat→AV) (l:List Int) (s:SM) (b:Nat) (r:Is) (h:Hp) (hb:h[b]? = some (.live 1 [[.sl s 1 (l.map qencI)]])) (hl:l.length≤1099511627776) :
  PCall (En G) 161 [.sl r.m 1 (r.l.map qencI),.ptr b 0 0] h (.bool (eqL r.l l)):=by
 refine acN Tryz.func161 rfl ?_
 show awp _ _ _ _ _ (D8 _ [.tmp 3] _)
 simp -implicitDefEqProofs only [BC,BA,A8,AY,BB,AO,AQ,AL,BD,AX,AC,AA,AZ,AU,BU,BM,BG,A7,BX,BZ,BO,AB,BF,BL,jE,jD,jF,↓reduceIte,jC,jA,jB,enP,JF OA hb]
 refine (ADA G r.l l r.m s h hl).use ?_
 simp -implicitDefEqProofs only [BJ,A8,CJ,AY,BB,AO,AQ,AL,BD,AX,AC,AA,AZ,A7,↓reduceIte,jA,jB]
 exact ⟨trivial,trivial⟩
theorem Two.app {h H:Hp} {m:Mo} {c:Cr} {cb:Nat} (t:Two h H m c cb) (x:Hp):Two h (H ++ x) m c cb:=by
 obtain ⟨y,hy⟩:=t.hx
 exact ⟨FQ t.gm,FQ t.gc,⟨y ++ x,by rw [hy,zI]⟩⟩
theorem AEK (G:Nat→AV) (m:Mo) (c:Cr) (l:List Int) (s:SM) (h:Hp) (hh:Here m c.pts) (hi:J3 (szs m c.pts) l=true) (hl:c.pts.length≤1048576) (hx:c.excl.length≤1048576):PCall (En G) 115 [.agg (EE m),.agg (G6 c),.sl s 1 (l.map qencI)] h (.bool (VM m c l)):=by
 refine ACalls.pure0 rfl ?_
 have hlen:l.length=c.pts.length:=by have:=QD hi; rw [QR] at this; omega
 refine acN Tryz.func115 rfl ?_
 show awp _ _ _ _ _ (D8 _ [.tmp 6] _)
 have t:=(Two.mk' h m c).app [.live 1 [[.sl s 1 (l.map qencI)]]]
 have gl:=CW (h ++ [ABlk.live 2 [EE m]] ++ [ABlk.live 3 [G6 c]]) (.live 1 [[.sl s 1 (l.map qencI)]])
 simp -implicitDefEqProofs only [AOB,BC,BA,A8,AY,BB,AO,AQ,AL,BD,AX,AC,AA,AZ,AU,BM,A7,FM,BX,CB,BF,BL,↓reduceIte,jC,jA,jB,enP,bxM,bxC]
 generalize h ++ [ABlk.live 2 [EE m]] ++ [ABlk.live 3 [G6 c]] ++ [ABlk.live 1 [[.sl s 1 (l.map qencI)]]]=H at t gl ⊢
 generalize (h ++ [ABlk.live 2 [EE m]] ++ [ABlk.live 3 [G6 c]]).length=lb at gl ⊢
 generalize (h ++ [ABlk.live 2 [EE m]]).length=cb at t ⊢
 simp -implicitDefEqProofs only [BP,A8,AY,BB,AO,AQ,AL,BD,AX,AC,AA,AZ,AU,BH,BG,D6,AB,↓reduceIte,jA,jB,enP,KH,JF OA gl,jI]
 have hkb:=AAK m c.pts l
 refine JA 0 (fun F H'=>F 4 = .ptr cb 0 0∧F 5 = .ptr lb 0 0∧H'=H∧MQ m c.pts l=true) (fun F H'=>F 6 = .bool false∧H'=H∧MQ m c.pts l=false) ?_ ?_ ?_
 ·refine DY (fun n F H' => ∃ k,n+k=l.length∧F 3 = .ptr h.length 0 0∧F 4 = .ptr cb 0 0∧F 5 = .ptr lb 0 0∧F 9 = .sl s 1 (l.map qencI)∧F 10 = .int .i64 l.length∧F 11 = .int .i64 (k:Nat)∧H'=H∧MQ m c.pts l=MQ m (c.pts.drop k) (l.drop k)) l.length ⟨0,by simp,by simp -implicitDefEqProofs only [AA,↓reduceIte,jC],by simp -implicitDefEqProofs only [AA,↓reduceIte,jC],by simp -implicitDefEqProofs only [AA,↓reduceIte,jC],by simp -implicitDefEqProofs only [AA,↓reduceIte,jC],by simp -implicitDefEqProofs only [AA,↓reduceIte,jC],by simp -implicitDefEqProofs only [AA,↓reduceIte]; rfl,rfl,rfl⟩ ?_
  rintro n F H' ⟨k,hk,f3,f4,f5,f9,f10,f11,rfl,hk0⟩
  simp -implicitDefEqProofs only [BC,BA,BI,A8,AY,BB,AO,AQ,AL,BD,AX,AC,AA,AZ,BQ,AB,C9,↓reduceIte,jA,jB,enP,f10,f11]
  refine CV (fun hc => ?_) (fun hc => ?_)
  ·have hk':k < l.length:=by simpa using hc
   have hkc:k < c.pts.length:=by omega
   rw [hkb k hkc hk'] at hk0
   obtain ⟨h0,h1⟩:=X3 hi k hk' hkc
   obtain ⟨s2,ls⟩:=hh.ld hkc H'
   simp -implicitDefEqProofs only [BC,BP,BA,BR,A8,AY,BB,AO,AQ,AL,BD,AX,AC,AA,AZ,BG,A7,BX,CG,AB,↓reduceIte,jC,jA,jB,enP,JS,f9,f11,D7 hk',DZ ag3 hk',encI0]
   refine FN (by kernel_rfl) ?_
   simp -implicitDefEqProofs only [G5,EM,D9,EQ,GH,FT,ATB,EX,EU,H6,GN,AO,AA,AZ,BU,BX,GU,BN,CG,AB,jE,jD,jF,↓reduceIte,jC,jQ,jM,jG,jA,enP,WQ,JV,JS,ZC,KU,NH,f3,f4,f11,t.lm,t.l1,D7 hkc,DZ ag3 hkc,encI0,hh.ix hkc,ls,AWV h0 h1,FP AEU YY MI (show l[k].toNat < (JQ m c.pts[k]).length by omega)]
   refine ⟨_,AK8 G _ _,?_⟩
   try simp -implicitDefEqProofs only [D9,FU,BI,A8,AA,AZ,AB,EP,↓reduceIte]
   rw [ALM h0 h1]
   cases hkd:(TJ m c.pts[k] l[k] == 0)
   ·simp -implicitDefEqProofs only [BC,BA,BJ,A8,CQ,ED,RI,F7,CZ,AY,BB,AO,AQ,AL,BD,AX,AC,AA,AU,BM,A7,↓reduceIte,jA,jB]
    exact ⟨trivial,trivial,by rw [hk0,hkd]; rfl⟩
   ·simp -implicitDefEqProofs only [BA,BR,A8,EH,ER,DI,AY,BB,AO,AQ,AL,BD,AX,AC,AA,AZ,AU,BH,BG,BQ,AB,DK,↓reduceIte,jC,jA,jV,jB,enP,f11,wrap_succ (show k < 9223372036854775807 by omega)]
    exact ⟨n - 1,by omega,k+1,by omega,f3,f4,f5,f9,f10,rfl,trivial,by rw [hk0,hkd]; rfl⟩
  ·have hk' : ¬ k < l.length:=by simpa using hc
   simp -implicitDefEqProofs only [DW,EG,NG,EZ,AA,↓reduceIte,jC]
   exact ⟨f4,f5,trivial,by rw [hk0,zG (show l.length≤k by omega),ACJ]⟩
 ·rintro F H' ⟨f4,f5,rfl,hk⟩
  simp -implicitDefEqProofs only [BC,BA,A8,EY,AY,AO,AQ,AL,BD,AX,AC,AA,AZ,BU,BX,G9,BN,BZ,BO,AB,jE,jD,jF,↓reduceIte,jC,jG,jA,jB,enP,AC7,f4,f5,t.l2]
  refine (QJ G c.excl c.xm 161 _ (fun x=>eqL x.l l) _ (by omega) fun r=>AZX G l s _ r _ gl (by omega)).use ?_
  simp -implicitDefEqProofs only [BJ,A8,CJ,AY,BB,AO,AQ,AL,BD,AX,AC,AA,AZ,A7,GU,AB,EP,↓reduceIte,jA,jB]
  exact ⟨by unfold VM; rw [hk]; rfl,t.hx⟩
 ·rintro F H' ⟨f6,rfl,hk⟩
  simp -implicitDefEqProofs only [CQ,ED,CJ,f6]
  exact ⟨by unfold VM; rw [hk]; rfl,t.hx⟩
theorem AZZ (xs:List Nat):xs.map JH=(xs.map fun n:Nat=>(n:Int)).map qencI:=by
 rw [List.map_map]; rfl
def tupF:List Nat→Nat→List Nat × Nat
 | [],k=>([],k)
 | n :: ns,k=>(((tupF ns k).2 % n) :: (tupF ns k).1,(tupF ns k).2 / n)
def RF (ns:List Nat) (k:Nat):List Int:=(tupF ns k).1.map fun n:Nat=>(n:Int)
theorem XE : ∀ (ns:List Nat) (k:Nat),(tupF ns k).1.length=ns.length
 | [],_=>rfl
 | n :: ns,k=>by simp [tupF,XE ns k]
theorem AIH : ∀ (ns:List Nat) (k:Nat),(∀ n∈ns,1≤n)→J3 ns (RF ns k)=true
 | [],_,_=>rfl
 | n :: ns,k,h=>by
   have h1:=h n (by simp)
   have ih:=AIH ns k (fun x hx=>h x (by simp [hx]))
   have h2:(tupF ns k).2 % n < n:=Nat.mod_lt _ (by omega)
   show J3 (n :: ns) (((tupF ns k).2 % n:Nat) :: RF ns k)=true
   unfold J3
   rw [ih]
   simp; omega
theorem tup_step {ns:List Nat} {K j:Nat} (hj:j < ns.length):tupF (ns.drop j) K=(((tupF (ns.drop (j+1)) K).2 % ns[j]) :: (tupF (ns.drop (j+1)) K).1,(tupF (ns.drop (j+1)) K).2 / ns[j]):=by
 rw [zQ hj]; rfl
theorem A7P (h:Hp) (n:Nat) (hn:n≤1048576):JW Tryz.prog true h 26 (.int .i64 (n:Int)) (.int .i64 (n:Int))=some (.own h.length 0 n,h ++ [.live 1 ((List.replicate n 0).map JH)]):=by
 have hz:NE Tryz.prog 3=some [.int .i64 0]:=by kernel_rfl
 have hr:room n 8:=IX (by omega) (by omega)
 unfold JW
 simp only [VJ,sz3,YM,hz,Int.toNat_natCast]
 rw [if_pos ⟨by omega,Int.le_refl _,hr,rfl⟩]
 simp [JH]
theorem AYJ (a b:Nat) (hb:0 < b):JB Tryz.prog 3 .rem (.int .i64 (a:Int)) (.int .i64 (b:Int))=some (.int .i64 ((a % b:Nat):Int)):=by
 rw [ABF _ _ _ _ _ (by omega),Int.tmod_eq_emod_of_nonneg (by omega)]; rfl
theorem AYM (a b:Nat) (hb:0 < b) (ha:a≤9223372036854775807):JB Tryz.prog 3 .quo (.int .i64 (a:Int)) (.int .i64 (b:Int))=some (.int .i64 ((a / b:Nat):Int)):=by
 have h1:((a:Int).tdiv (b:Int))=((a / b:Nat):Int):=by rw [Int.tdiv_eq_ediv_of_nonneg (by omega)]; rfl
 have h2:=Nat.div_le_self a b
 rw [A0N _ _ _ _ _ (by omega),h1,KC (by omega)]
structure Cvr where
 pm:SM
 pts:List Is
 cm:SM
 crs:List Is
 sam:Int
 ill:Int
def encV (v:Cvr):List AV := [.sl v.pm 1 (v.pts.map encL),.sl v.cm 1 (v.crs.map encL),.int .i64 v.sam,.int .i64 v.ill]
theorem A1M (v:Cvr):(encV v)[0]? = some (.sl v.pm 1 (v.pts.map encL)):=rfl
theorem A5P (v:Cvr):(encV v)[1]? = some (.sl v.cm 1 (v.crs.map encL)):=rfl
theorem A5O (v:Cvr):(encV v)[2]? = some (.int .i64 v.sam):=rfl
theorem A1L (v:Cvr):(encV v)[3]? = some (.int .i64 v.ill):=rfl
theorem encV_len (v:Cvr):(encV v).length=4:=rfl
def rowF (p:Nat→Bool):Nat→List Int→Bool
 | _,[]=>true
 | k,n :: ns=>countB n (p k) && rowF p (k+1) ns
def QG {α:Type} (ok:α→Is→Bool):List α→List Is→Bool
 | [],[]=>true
 | a :: ws,x :: xs=>ok a x && QG ok ws xs
 | _,_=>false
theorem ACZ {α:Type} {ok:α→Is→Bool} : ∀ {ws:List α} {xs:List Is},QG ok ws xs=true→ws.length=xs.length
 | [],[],_=>rfl
 | a :: ws,x :: xs,h=>by
   simp only [QG,jU] at h
   simp [ACZ h.2]
 | [],_ :: _,h=>by cases h
 | _ :: _,[],h=>by cases h
def kindOf (p:Pt) (k:Nat):Int:=match p.bins[k]? with
 | some b=>b.kind
 | none=>0
def okP (p:Pt) (x:Is):Bool:=(x.l.length == p.bins.length) && rowF (fun k=>kindOf p k == 0) 0 x.l
def okC (m:Mo) (c:Cr) (x:Is):Bool:=(x.l.length == JO (szs m c.pts)) && rowF (fun k=>VM m c (RF (szs m c.pts) k)) 0 x.l
def Q8 (G:Nat→AV):Prop := ∀ (ns:List Nat) (s:SM) (K:Nat) (h:Hp),0 < ns.length→ns.length≤4→(∀ n∈ns,1≤n∧n≤64)→K≤1048576 →
 PCall (En G) 114 [.sl s 1 (ns.map JH),.int .i64 (K:Int)] h (.sl .any 1 ((RF ns K).map qencI))
structure CrGood (m:Mo) (c:Cr):Prop where
 here:Here m c.pts
 two:2≤c.pts.length
 four:c.pts.length≤4
 prod:JO (szs m c.pts)≤256
 num:c.excl.length≤256
 excl : ∀ x∈c.excl,J3 (szs m c.pts) x.l=true
theorem ASN {m:Mo} {c:Cr} (h:KE m c=0):CrGood m c:=by
 unfold KE at h
 split at h
 ·cases h
 ·split at h
  ·cases h
  ·split at h
   ·cases h
   ·split at h
    ·cases h
    ·split at h
     ·cases h
     ·rename_i h1 h2 h3 h4 h5
      have h3':AA2 m.pts.length none c.pts=true:=by simpa using h3
      refine ⟨ZE h3',by omega,by omega,by omega,by omega,fun x hx => ?_⟩
      rw [Bool.not_eq_true,wS] at h5
      have:=h5 x hx
      simpa using this
structure Good (m:Mo):Prop where
 num:m.pts.length+m.crs.length≤16
 full:Full m
 crs : ∀ c∈m.crs,CrGood m c
theorem X6 {m:Mo} (h:IA m=0):Good m:=by
 unfold IA at h
 split at h
 ·cases h
 ·split at h
  ·rename_i h2; exact absurd h h2
  ·split at h
   ·cases h
   ·split at h
    ·rename_i h4; exact absurd h h4
    ·rename_i h1 h2 h3 h4
     refine ⟨by omega,full_of (by simpa using h2),fun c hc=>ASN (OH _ (by simpa using h4) c hc)⟩
def AFN (m:Mo) (v:Cvr):Bool:=(IA m == 0) && QG okP m.pts v.pts && QG (okC m) m.crs v.crs && LM v.sam && LM v.ill
structure TwoV (h H:Hp) (m:Mo) (v:Cvr) (vb:Nat):Prop where
 gm:H[h.length]? = some (.live 2 [EE m])
 gv:H[vb]? = some (.live 4 [encV v])
 hx : ∃ x,H=h ++ x
theorem TwoV.mk' (h:Hp) (m:Mo) (v:Cvr):TwoV h (h ++ [.live 2 [EE m]] ++ [.live 4 [encV v]]) m v (h ++ [ABlk.live 2 [EE m]]).length:=⟨CU (CW _ _),CW _ _,⟨_,zI _ _ _⟩⟩
section
variable {h H:Hp} {m:Mo} {v:Cvr} {vb:Nat} (t:TwoV h H m v vb)
include t
theorem TwoV.m0:DX Tryz.prog H 22 (.ptr h.length 0 0)=some (.sl m.pm 6 (m.pts.map F9)):=by rw [DJ Z7 t.gm (row:=EE m) rfl,SE]
theorem TwoV.m1:DX Tryz.prog H 23 (.ptr h.length 0 1)=some (.sl m.cm 3 (m.crs.map G6)):=by rw [DJ AD2 t.gm (row:=EE m) rfl,U1]
theorem TwoV.l0:DX Tryz.prog H 67 (.ptr vb 0 0)=some (.sl v.pm 1 (v.pts.map encL)):=by rw [DJ TR t.gv (row:=encV v) rfl,A1M]
theorem TwoV.l1:DX Tryz.prog H 67 (.ptr vb 0 1)=some (.sl v.cm 1 (v.crs.map encL)):=by rw [DJ TR t.gv (row:=encV v) rfl,A5P]
theorem TwoV.l2:DX Tryz.prog H 3 (.ptr vb 0 2)=some (.int .i64 v.sam):=by rw [DJ ag3 t.gv (row:=encV v) rfl,A5O]
theorem TwoV.l3:DX Tryz.prog H 3 (.ptr vb 0 3)=some (.int .i64 v.ill):=by rw [DJ ag3 t.gv (row:=encV v) rfl,A1L]
end
theorem ANF (G:Nat→AV) (xs:List Int) (m:SM) (fid:FuncId) (caps:List AV) (p:Int→Bool) (h:Hp) (hl:xs.length≤1099511627776)
  (hf : ∀ r,PCall (En G) fid (.int .i64 r :: caps) h (.bool (p r))) :
  PCall (En G) 163 [.sl m 1 (xs.map qencI),.fn (.func fid) [] caps] h (.int .i64 (match xs.findIdx? p with | some i=>(i:Int) | none => -1)):=by
 refine acN Tryz.func163 rfl ?_
 show awp _ _ _ _ _ (D8 _ [.tmp 4] _)
 simp -implicitDefEqProofs only [BC,BP,BA,A8,AY,BB,AO,AQ,AL,BD,AX,AC,AA,AZ,AU,BH,BG,A7,D6,AB,BF,↓reduceIte,jC,jA,jB,enP,KH,jI]
 refine DY (fun n F H => ∃ k,n+k=xs.length∧F 0 = .sl m 1 (xs.map qencI)∧F 1 = .fn (.func fid) [] caps∧F 7 = .int .i64 xs.length∧F 8 = .int .i64 (k:Nat)∧H=h∧(xs.take k).all (fun r => !p r)=true) xs.length ⟨0,by simp,rfl,rfl,rfl,rfl,rfl,rfl⟩ ?_
 rintro n F H ⟨k,hk,f0,f1,f7,f8,rfl,hin⟩
 simp -implicitDefEqProofs only [BC,BA,BI,A8,AY,BB,AO,AQ,AL,BD,AX,AC,AA,AZ,BQ,AB,C9,↓reduceIte,jA,jB,enP,f0,f1,f7,f8,jI]
 refine CV (fun hc => ?_) (fun hc => ?_)
 ·have hc':k < xs.length:=by simpa using hc
  simp -implicitDefEqProofs only [BC,BP,BA,BR,A8,AY,BB,AO,AQ,AL,BD,AX,AC,AA,AZ,BG,A7,BX,CG,BZ,BO,AB,jE,jD,qF,qK,↓reduceIte,jC,jA,jB,enP,JS,f0,f1,f7,f8,D7 hc',DZ ag3 hc',encI0]
  refine (hf _).use ?_
  simp -implicitDefEqProofs only [BI,A8,BB,AC,AA,AZ,↓reduceIte]
  refine CV (fun hb => ?_) (fun hb => ?_)
  ·simp -implicitDefEqProofs only [BC,BA,BJ,A8,CQ,ED,F7,CJ,AY,BB,AO,AQ,AL,BD,AX,AC,AA,AZ,BG,A7,↓reduceIte,jC,jA,jB]
   refine ⟨?_,trivial⟩
   rw [qX.2 ⟨hc',hb,fun j hj=>by
    rw [zF] at hin
    have:=hin xs[j] (by rw [List.mem_take_iff_getElem]; exact ⟨j,by omega,rfl⟩)
    simpa using this⟩]
  ·simp -implicitDefEqProofs only [BA,BR,A8,EH,ER,AY,BB,AO,AQ,AL,BD,AX,AC,AA,AZ,AU,BH,BG,BQ,AB,DK,↓reduceIte,jC,jA,jB,enP,f8,wrap_succ (show k < 9223372036854775807 by omega)]
   refine ⟨n - 1,by omega,k+1,by omega,f0,f1,f7,rfl,trivial,?_⟩
   rw [zN hc',yA,hin]
   simp only [qQ,List.all_nil,hb]; rfl
 ·have hc' : ¬ k < xs.length:=by simpa using hc
  simp -implicitDefEqProofs only [BC,BA,BJ,DW,A8,EG,EY,EZ,CJ,AY,BB,AO,AQ,AL,BD,AX,AC,AA,AU,BH,A7,↓reduceIte,jA,jB]
  refine ⟨?_,trivial⟩
  rw [jW (by omega)] at hin
  rw [qY.2 (by simpa using hin)]
theorem AER (G:Nat→AV) (xs:List Int) (m:SM) (fid:FuncId) (caps:List AV) (p:Int→Bool) (h:Hp) (hl:xs.length≤1099511627776)
  (hf : ∀ r,PCall (En G) fid (.int .i64 r :: caps) h (.bool (p r))) :
  PCall (En G) 118 [.sl m 1 (xs.map qencI),.fn (.func fid) [] caps] h (.bool (xs.any p)):=by
 refine acN Tryz.func118 rfl ?_
 show awp _ _ _ _ _ (D8 _ [.tmp 4] _)
 simp -implicitDefEqProofs only [BC,BA,A8,AY,BB,AO,AQ,AL,BD,AX,AC,AA,AZ,AU,BU,BM,BG,A7,BZ,BO,BF,BL,jE,jD,jF,↓reduceIte,jC,jA,jB,enP]
 refine (ANF G xs m fid caps p h hl hf).use ?_
 simp -implicitDefEqProofs only [BJ,A8,CJ,AY,BB,AO,AQ,AL,BD,AX,AC,AA,AZ,AU,BH,A7,BQ,AB,FX,↓reduceIte,jA,jB,enP]
 refine ⟨?_,trivial⟩
 cases hx:xs.findIdx? p with
 | some i =>
   obtain ⟨h1,h2,_⟩:=qX.1 hx
   have:xs.any p=true:=qC.2 ⟨xs[i],by simp,h2⟩
   simp [this]
 | none =>
   have:xs.any p=false:=by
    rw [qY] at hx
    rw [wS]; intro x hx2; simp [hx x hx2]
   simp [this]
theorem UR {h:Hp} {b:Nat} {m:Mo} (hb:h[b]? = some (.live 2 [EE m])):DX Tryz.prog h 22 (.ptr b 0 0)=some (.sl m.pm 6 (m.pts.map F9)):=by rw [DJ Z7 hb (row:=EE m) rfl,SE]
theorem AEG {h:Hp} {b:Nat} {m:Mo} (hb:h[b]? = some (.live 2 [EE m])):DX Tryz.prog h 23 (.ptr b 0 1)=some (.sl m.cm 3 (m.crs.map G6)):=by rw [DJ AD2 hb (row:=EE m) rfl,U1]
theorem AM1 (G:Nat→AV) (m:Mo) (b:Nat) (p:Int) (h:Hp) (hb:h[b]? = some (.live 2 [EE m])):PCall (En G) 117 [.int .i64 p,.ptr b 0 0] h (.bool (decide (p < 0) || decide (p≥(m.pts.length:Int)))):=by
 refine acN Tryz.func117 rfl ?_
 show awp _ _ _ _ _ (D8 _ [.tmp 3] _)
 simp -implicitDefEqProofs only [BC,BA,A8,AY,BB,BK,BV,CO,AO,AQ,AL,BD,AX,AC,AA,AZ,AU,BH,BM,BG,A7,BQ,AB,C9,BF,↓reduceIte,jC,jA,jB,enP]
 cases ha:decide (p < 0)
 ·simp -implicitDefEqProofs only [Bool.false_or,BJ,A8,CJ,AY,BB,BK,BV,CO,EF,AO,AQ,AL,BD,AX,AC,AA,AZ,AU,BM,BG,A7,CP,DN,BX,BQ,BN,D6,AB,FX,BF,BL,↓reduceIte,jC,jM,jA,jB,enP,UQ,JV,UR hb,jI]
  exact ⟨by simp,trivial⟩
 ·simp -implicitDefEqProofs only [Bool.true_or,BJ,A8,CJ,AY,BB,BK,BV,CO,FI,AO,AQ,AL,BD,AX,AC,AA,EK,AZ,AU,BM,A7,CP,DL,↓reduceIte,jC,jA,jB]
  exact ⟨by simp,trivial⟩
theorem AVL {m:Mo} {l:List Int} (hh:Here m l):(l.any fun p=>decide (p < 0) || decide (p≥(m.pts.length:Int)))=false:=by
 rw [wS]
 intro p hp
 have:=hh p hp
 simp; omega
theorem AAE (G:Nat→AV) (m:Mo) (i:Nat) (hi:i < m.crs.length) (hg:CrGood m m.crs[i]) (h:Hp):PCall (En G) 77 [.agg (EE m),.int .i64 (i:Int)] h (.bool true):=by
 refine ACalls.pure0 rfl ?_
 have hfour:=hg.four
 refine acN Tryz.func77 rfl ?_
 show awp _ _ _ _ _ (D8 _ [.tmp 4] _)
 have d0:decide ((i:Int) < 0)=false:=by simp
 have d1:decide ((i:Int)≥(m.crs.length:Int))=false:=by simp; omega
 simp -implicitDefEqProofs only [BC,BA,BR,BI,A8,DI,AY,BB,BK,BV,CO,EF,AO,AQ,AL,BD,AX,AC,AA,AZ,AU,BU,BH,BM,BG,A7,CP,DN,FM,BX,BQ,G9,BN,CG,D6,BZ,BO,CB,AB,C9,FX,BF,BL,jE,jD,jF,↓reduceIte,jC,jG,jA,jB,enP,XZ,AEF,L8,NH,bxM,d0,DV AD2,U1,jI,d1,D7 hi,DZ OA hi,U2]
 refine (AER G m.crs[i].pts m.crs[i].pm 117 _ _ _ (by omega) fun r=>AM1 G m _ r _ (CW _ _)).use ?_
 simp -implicitDefEqProofs only [BJ,A8,CJ,AY,BB,AO,AQ,AL,BD,AX,AC,AA,AZ,A7,GU,AB,EP,↓reduceIte,jA,jB,AVL hg.here]
 exact ⟨trivial,_,rfl⟩
theorem YL (G:Nat→AV) (m:Mo) (i:Nat) (hi:i < m.crs.length) (hg:CrGood m m.crs[i]) (h:Hp):PCall (En G) 78 [.agg (EE m),.int .i64 (i:Int)] h (.sl .any 1 ((szs m m.crs[i].pts).map JH)):=by
 have hfour:=hg.four
 have htwo:=hg.two
 have hh:=hg.here
 have hp:PCall (En G) 78 [.agg (EE m),.int .i64 (i:Int)] h (.sl (nm (szs m m.crs[i].pts)) 1 ((szs m m.crs[i].pts).map JH)):=by
  refine P5 A21 ?_
  refine acN Tryz.func78 rfl ?_
  show awp _ _ _ _ _ (D8 _ [.tmp 4] _)
  simp -implicitDefEqProofs only [BC,BP,BA,A8,AY,BB,AO,AQ,AL,BD,AX,AC,AA,AZ,AU,BH,GZ,BG,A7,FM,BX,BN,CG,D6,CB,AB,BF,BL,↓reduceIte,jC,jG,jA,jB,enP,XZ,L8,KH,NH,bxM,DV AD2,U1,D7 hi,DZ OA hi,U2,jI]
  refine DY (fun n F H => ∃ k,n+k=m.crs[i].pts.length∧F 2 = .ptr h.length 0 0∧F 13 = .sl m.crs[i].pm 1 (m.crs[i].pts.map qencI)∧F 14 = .int .i64 m.crs[i].pts.length∧F 15 = .int .i64 (k:Nat)∧H[h.length]? = some (.live 2 [EE m])∧ext h H∧(∀ b,isB (F 5) b→h.length < b)∧outG 1 JH h (szs m (m.crs[i].pts.take k)) (F 5) H) m.crs[i].pts.length ⟨0,by simp,by simp -implicitDefEqProofs only [AA,↓reduceIte,jC],by simp -implicitDefEqProofs only [AA,↓reduceIte,jC],by simp -implicitDefEqProofs only [AA,↓reduceIte,jC],by simp -implicitDefEqProofs only [AA,↓reduceIte]; rfl,CW _ _,(ext.rfl' h).app _,fun b hb=>hb.elim,outG.nil _ _ _ _⟩ ?_
  rintro n F H ⟨k,hk,f2,f13,f14,f15,hb,he,hlt,ho⟩
  simp -implicitDefEqProofs only [BC,BA,BI,A8,AY,BB,AO,AQ,AL,BD,AX,AC,AA,AZ,BQ,AB,C9,↓reduceIte,jA,jB,enP,f14,f15]
  refine CV (fun hc => ?_) (fun hc => ?_)
  ·have hk':k < m.crs[i].pts.length:=by simpa using hc
   obtain ⟨s,ls⟩:=hh.ld hk' H
   have hzl:(szs m (m.crs[i].pts.take k)).length < 8388608:=by unfold szs; simp; omega
   obtain ⟨v',H',ha,ho',hkeep,he',hle,hb'⟩:=ho.append VJ sz3 YV YM (by omega) hzl he (JQ m m.crs[i].pts[k]).length
   simp -implicitDefEqProofs only [FK,FH,BC,BP,BA,BR,A8,AY,BB,AO,AQ,AL,BD,AX,AC,AA,AZ,BG,A7,EC,BX,BN,CG,D6,GL,CB,AB,↓reduceIte,jC,jM,jG,jA,jB,enP,WQ,JV,JS,XU,KU,f2,f13,f15,D7 hk',DZ ag3 hk',encI0,UR hb,hh.ix hk',ls,jI,ALK]
   refine LY (v:=v') (h:=H') (by rw [show [[AV.int .i64 ((JQ m m.crs[i].pts[k]).length:Int)]] = [JH (JQ m m.crs[i].pts[k]).length] from rfl,ha]) ?_
   simp -implicitDefEqProofs only [BA,A8,EH,ER,AY,BB,AO,AQ,AL,BD,AX,AC,AA,AZ,AU,BH,BG,A7,BQ,AB,DK,↓reduceIte,jC,jA,jB,enP,f15,wrap_succ (show k < 9223372036854775807 by omega)]
   refine ⟨n - 1,by omega,k+1,by omega,f2,f13,f14,rfl,hkeep _ _ hb (fun e=>by have:=hlt _ e; omega),he',fun b hbb => ?_,?_⟩
   ·have:=hb' b hbb; have:=CE hb; omega
   ·rw [AII m m.crs[i].pts k hk']; exact ho'
  ·have hk' : ¬ k < m.crs[i].pts.length:=by simpa using hc
   rw [jW (by omega)] at ho
   simp -implicitDefEqProofs only [BC,BA,BJ,DW,A8,EG,EY,EZ,CJ,AY,BB,AO,AQ,AL,BD,AX,AC,AA,AZ,BG,A7,↓reduceIte,jC,jA,jB]
   exact ⟨he,ho⟩
 have hnm:nm (szs m m.crs[i].pts)=SM.any:=by
  have:=QR m m.crs[i].pts
  cases hx:szs m m.crs[i].pts with
  | nil=>rw [hx] at this; simp at this; omega
  | cons a l=>rfl
 rw [hnm] at hp
 exact hp
def VL:List Nat→List Int→Int→Int
 | n :: ns,x :: xs,z=>VL ns xs (IntKind.i64.wrap (IntKind.i64.wrap (z * (n:Int))+x))
 | _,_,z=>z
theorem AKD (ns:List Nat) (z:Int):VL ns [] z=z:=by cases ns <;> rfl
theorem AJ8 : ∀ {ns:List Nat} {l:List Int},J3 ns l=true→∀ (k:Nat) (hk:k < l.length) (hp:k < ns.length),0≤l[k]∧l[k] < (ns[k]:Int)
 | n :: ns,b :: bs,h,k,hk,hp=>by
   simp only [J3,jU,decide_eq_true_eq] at h
   cases k with
   | zero=>exact h.1
   | succ k=>exact AJ8 (ns:=ns) h.2 k (by simpa using hk) (by simpa using hp)
 | [],b :: bs,h,k,hk,hp=>by simp at hp
 | _,[],h,k,hk,hp=>by simp at hk
theorem AG1 (G:Nat→AV) (m:Mo) (i:Nat) (hi:i < m.crs.length) (hg:CrGood m m.crs[i]) (l:List Int) (s:SM) (hin:J3 (szs m m.crs[i].pts) l=true) (h:Hp):PCall (En G) 44 [.agg (EE m),.int .i64 (i:Int),.sl s 1 (l.map qencI)] h (.tup [.int .i64 (VL (szs m m.crs[i].pts) l 0),.bool true]):=by
 have hfour:=hg.four
 have hsl:=QR m m.crs[i].pts
 have hlen:=QD hin
 refine ACalls.pure 2 (R:=fun v H=>v = .tup [.int .i64 (VL (szs m m.crs[i].pts) l 0),.bool true]∧∃ x,H=h ++ x) ?_ (fun v h' ⟨e,x⟩=>⟨x,by subst e; rfl⟩)
 have hx : ∃ x,h ++ [ABlk.live 2 [EE m]]=h ++ x:=⟨_,rfl⟩
 refine acN Tryz.func44 rfl ?_
 show awp _ _ _ _ _ (D8 _ [.tmp 6,.tmp 7] _)
 simp -implicitDefEqProofs only [BC,BA,A8,AY,BB,AO,AQ,AL,BD,AX,AC,AA,AZ,AU,BU,BH,BM,BG,A7,FM,BX,BZ,BO,CB,AB,BF,BL,jE,jD,jF,↓reduceIte,jC,jA,jB,enP,bxM,ldM (CW h (.live 2 [EE m]))]
 refine (AAE G m i hi hg _).use ?_
 simp -implicitDefEqProofs only [BC,BA,BR,BI,A8,DI,AY,BB,AO,AQ,AL,BD,AX,AC,AA,AZ,BU,BG,BX,GU,BZ,BO,AB,EP,BF,BL,jE,jD,jF,↓reduceIte,jC,jA,jV,jB,enP,ldM (CW h (.live 2 [EE m]))]
 refine (YL G m i hi hg _).use ?_
 generalize szs m m.crs[i].pts=ns at hin hsl hlen ⊢
 have hne:((l.length:Int) != (ns.length:Int))=false:=by rw [hlen]; simp
 simp -implicitDefEqProofs only [BC,BP,BA,BR,BI,A8,DI,AY,BB,AO,AQ,AL,BD,AX,AC,AA,AZ,AU,BH,BG,A7,BQ,D6,AB,ET,BF,BL,↓reduceIte,jC,jA,jB,enP,KH,jI,hne]
 refine DY (fun n F H => ∃ k,n+k=l.length∧F 8 = .sl .any 1 (ns.map JH)∧(∃ z,F 9 = .int .i64 z∧VL ns l 0=VL (ns.drop k) (l.drop k) z)∧F 24 = .sl s 1 (l.map qencI)∧F 25 = .int .i64 l.length∧F 26 = .int .i64 (k:Nat)∧H=h ++ [ABlk.live 2 [EE m]]) l.length ⟨0,by simp,by simp -implicitDefEqProofs only [AA,↓reduceIte,jC],⟨0,rfl,rfl⟩,by simp -implicitDefEqProofs only [AA,↓reduceIte,jC],by simp -implicitDefEqProofs only [AA,↓reduceIte,jC],by simp -implicitDefEqProofs only [AA,↓reduceIte]; rfl,rfl⟩ ?_
 rintro n F H ⟨k,hk,f8,⟨z,f9,hz⟩,f24,f25,f26,rfl⟩
 simp -implicitDefEqProofs only [BC,BA,BI,A8,AY,BB,AO,AQ,AL,BD,AX,AC,AA,AZ,BQ,AB,C9,↓reduceIte,jA,jB,enP,f25,f26]
 refine CV (fun hc => ?_) (fun hc => ?_)
 ·have hk':k < l.length:=by simpa using hc
  have hkn:k < ns.length:=by omega
  obtain ⟨h0,h1⟩:=AJ8 hin k hk' hkn
  have d0:decide (l[k] < 0)=false:=by simp; omega
  have d1:decide (l[k]≥(ns[k]:Int))=false:=by simp; omega
  rw [zQ hk',zQ hkn] at hz
  simp -implicitDefEqProofs only [BC,BP,BA,BR,BI,A8,EH,ER,DI,AY,BB,BK,BV,CO,EF,AO,AQ,AL,BD,AX,AC,AA,AZ,AU,BH,BM,BG,A7,CP,DN,BX,BQ,CG,AB,DK,PV,C9,FX,↓reduceIte,jC,jA,jB,enP,JS,f8,f9,f24,f26,D7 hk',DZ ag3 hk',encI0,d0,D7 hkn,DZ ag3 hkn,encN0,d1,wrap_succ (show k < 9223372036854775807 by omega)]
  exact ⟨n - 1,by omega,k+1,by omega,trivial,⟨_,rfl,hz⟩,trivial,f25,rfl,trivial⟩
 ·have hk' : ¬ k < l.length:=by simpa using hc
  rw [zG (show l.length≤k by omega),AKD] at hz
  simp -implicitDefEqProofs only [BC,BA,BJ,DW,A8,EG,EY,EZ,IU,AY,BB,AO,AQ,AL,BD,AX,AC,AA,AZ,AU,BM,BG,A7,↓reduceIte,jC,jA,jB,f9,hz]
  exact ⟨trivial,hx⟩
theorem AKU (G:Nat→AV) (l:List Int) (s:SM) (b:Nat) (r:Is) (h:Hp) (hb:h[b]? = some (.live 1 [[.sl s 1 (l.map qencI)]])) (hl:l.length≤1099511627776) :
  PCall (En G) 91 [.sl r.m 1 (r.l.map qencI),.ptr b 0 0] h (.bool (eqL r.l l)):=by
 refine acN Tryz.func91 rfl ?_
 show awp _ _ _ _ _ (D8 _ [.tmp 3] _)
 simp -implicitDefEqProofs only [BC,BA,A8,AY,BB,AO,AQ,AL,BD,AX,AC,AA,AZ,AU,BU,BM,BG,A7,BX,BZ,BO,AB,BF,BL,jE,jD,jF,↓reduceIte,jC,jA,jB,enP,JF OA hb]
 refine (ADA G r.l l r.m s h hl).use ?_
 simp -implicitDefEqProofs only [BJ,A8,CJ,AY,BB,AO,AQ,AL,BD,AX,AC,AA,AZ,A7,↓reduceIte,jA,jB]
 exact ⟨trivial,trivial⟩
theorem AEP (G:Nat→AV) (m:Mo) (i:Nat) (hi:i < m.crs.length) (hg:CrGood m m.crs[i]) (l:List Int) (s:SM) (hin:J3 (szs m m.crs[i].pts) l=true) (h:Hp):PCall (En G) 56 [.agg (EE m),.int .i64 (i:Int),.sl s 1 (l.map qencI)] h (.bool (!VM m m.crs[i] l)):=by
 refine ACalls.pure0 rfl ?_
 have hh:=hg.here
 have hfour:=hg.four
 have hnum:=hg.num
 have hlen:l.length=m.crs[i].pts.length:=by have:=QD hin; rw [QR] at this; omega
 refine acN Tryz.func56 rfl ?_
 show awp _ _ _ _ _ (D8 _ [.tmp 6] _)
 have gm:(h ++ [ABlk.live 2 [EE m]] ++ [ABlk.live 1 [[.sl s 1 (l.map qencI)]]])[h.length]? = some (.live 2 [EE m]):=CU (CW _ _)
 have gl:=CW (h ++ [ABlk.live 2 [EE m]]) (.live 1 [[.sl s 1 (l.map qencI)]])
 have hx : ∃ x,h ++ [ABlk.live 2 [EE m]] ++ [ABlk.live 1 [[.sl s 1 (l.map qencI)]]]=h ++ x:=⟨_,zI _ _ _⟩
 simp -implicitDefEqProofs only [AOB,BC,BA,A8,AY,BB,AO,AQ,AL,BD,AX,AC,AA,AZ,AU,BM,A7,FM,BX,CB,BF,BL,↓reduceIte,jC,jA,jB,enP,bxM]
 generalize h ++ [ABlk.live 2 [EE m]] ++ [ABlk.live 1 [[.sl s 1 (l.map qencI)]]]=H at gm gl hx ⊢
 generalize (h ++ [ABlk.live 2 [EE m]]).length=lb at gl ⊢
 simp -implicitDefEqProofs only [AY,AO,AQ,AL,BD,AX,AC,AA,AZ,BU,BG,BX,BZ,BO,AB,BF,BL,jE,jD,jF,↓reduceIte,jC,jA,jB,enP,ldM gm,JF OA gl]
 refine (AG1 G m i hi hg l s hin _).use ?_
 simp -implicitDefEqProofs only [List.getElem?_cons_zero,List.getElem?_cons_succ,BC,BP,BA,BR,BI,A8,DI,AY,BB,AO,AQ,AL,BD,AX,AC,AA,AZ,AU,BH,BG,A7,BX,GU,BN,CG,EW,GG,D6,AB,EP,BF,BL,↓reduceIte,jC,jG,jA,jV,jB,enP,XZ,L8,KH,NH,AEG gm,D7 hi,DZ OA hi,U2,jI]
 have hkb:=AAK m m.crs[i].pts l
 refine JA 0 (fun F H'=>F 1 = .int .i64 (i:Nat)∧F 3 = .ptr h.length 0 0∧F 5 = .ptr lb 0 0∧H'=H∧MQ m m.crs[i].pts l=true) (fun F H'=>F 6 = .bool true∧H'=H∧MQ m m.crs[i].pts l=false) ?_ ?_ ?_
 ·refine DY (fun n F H' => ∃ k,n+k=l.length∧F 1 = .int .i64 (i:Nat)∧F 3 = .ptr h.length 0 0∧F 5 = .ptr lb 0 0∧F 25 = .sl m.crs[i].pm 1 (m.crs[i].pts.map qencI)∧F 26 = .int .i64 m.crs[i].pts.length∧F 27 = .int .i64 (k:Nat)∧H'=H∧MQ m m.crs[i].pts l=MQ m (m.crs[i].pts.drop k) (l.drop k)) l.length ⟨0,by simp,by simp -implicitDefEqProofs only [AA,BF,BL,↓reduceIte,jC],by simp -implicitDefEqProofs only [AA,↓reduceIte,jC],by simp -implicitDefEqProofs only [AA,↓reduceIte,jC],by simp -implicitDefEqProofs only [AA,↓reduceIte,jC],by simp -implicitDefEqProofs only [AA,↓reduceIte,jC],by simp -implicitDefEqProofs only [AA,↓reduceIte]; rfl,rfl,rfl⟩ ?_
  rintro n F H' ⟨k,hk,f1,f3,f5,f25,f26,f27,rfl,hk0⟩
  simp -implicitDefEqProofs only [BC,BA,BI,A8,AY,BB,AO,AQ,AL,BD,AX,AC,AA,AZ,BQ,AB,C9,↓reduceIte,jA,jB,enP,f26,f27]
  refine CV (fun hc => ?_) (fun hc => ?_)
  ·have hkc:k < m.crs[i].pts.length:=by simpa using hc
   have hk':k < l.length:=by omega
   rw [hkb k hkc hk'] at hk0
   obtain ⟨h0,h1⟩:=X3 hin k hk' hkc
   obtain ⟨s2,ls⟩:=hh.ld hkc H'
   have hlt:l[k].toNat < (JQ m m.crs[i].pts[k]).length:=by omega
   simp -implicitDefEqProofs only [BC,BP,BA,BR,A8,AY,BB,AO,AQ,AL,BD,AX,AC,AA,AZ,BG,A7,BX,CG,AB,↓reduceIte,jC,jA,jB,enP,JS,f25,f27,D7 hkc,DZ ag3 hkc,encI0]
   refine FN (by kernel_rfl) ?_
   simp -implicitDefEqProofs only [G5,EM,D9,FU,EQ,GH,FT,J7,EX,EU,BI,A8,AO,AA,AZ,AU,BH,BX,BQ,BN,CG,AB,ET,↓reduceIte,jC,jQ,jM,jG,jA,enP,WQ,JV,JS,ZC,KU,TM,bne,f3,f5,f27,UR gm,hh.ix hkc,ls,JF OA gl,D7 hk',DZ ag3 hk',encI0,AWV h0 h1,DZ ag3 hlt,YI,ALM h0 h1]
   cases hkd:(TJ m m.crs[i].pts[k] l[k] == 0)
   ·simp -implicitDefEqProofs only [BC,BA,BJ,A8,CQ,ED,RI,F7,CZ,AY,BB,AO,AQ,AL,BD,AX,AC,AA,AU,BM,A7,↓reduceIte,jA,jB]
    exact ⟨trivial,trivial,by rw [hk0,hkd]; rfl⟩
   ·simp -implicitDefEqProofs only [BA,BR,A8,EH,ER,DI,AY,BB,AO,AQ,AL,BD,AX,AC,AA,AZ,AU,BH,BG,BQ,AB,DK,↓reduceIte,jC,jA,jV,jB,enP,f27,wrap_succ (show k < 9223372036854775807 by omega)]
    exact ⟨n - 1,by omega,k+1,by omega,f1,f3,f5,f25,f26,rfl,trivial,by rw [hk0,hkd]; rfl⟩
  ·have hk' : ¬ k < m.crs[i].pts.length:=by simpa using hc
   simp -implicitDefEqProofs only [DW,EG,NG,EZ,AA,↓reduceIte,jC]
   exact ⟨f1,f3,f5,trivial,by rw [hk0,zG (show l.length≤k by omega),ACJ]⟩
 ·rintro F H' ⟨f1,f3,f5,rfl,hk⟩
  simp -implicitDefEqProofs only [BC,BA,A8,EY,AY,AO,AQ,AL,BD,AX,AC,AA,AZ,BU,BG,BX,G9,BN,CG,BZ,BO,AB,jE,jD,jF,↓reduceIte,jC,jG,jA,jB,enP,XZ,L8,AC7,f1,f3,f5,AEG gm,D7 hi,DZ TR hi,AQA]
  refine (QJ G m.crs[i].excl m.crs[i].xm 91 _ (fun x=>eqL x.l l) _ (by omega) fun r=>AKU G l s _ r _ gl (by omega)).use ?_
  simp -implicitDefEqProofs only [BJ,A8,CJ,AY,BB,AO,AQ,AL,BD,AX,AC,AA,AZ,A7,↓reduceIte,jA,jB]
  exact ⟨by unfold VM; rw [hk]; simp,hx⟩
 ·rintro F H' ⟨f6,rfl,hk⟩
  simp -implicitDefEqProofs only [CQ,ED,CJ,f6]
  exact ⟨by unfold VM; rw [hk]; rfl,hx⟩
structure Gl where
 cross:Bool
 idx:Nat
 bm:SM
 bins:List Int
 at_:Nat
def A5S (g:Gl):List AV := [.bool g.cross,.int .i64 (g.idx:Int),.sl g.bm 1 (g.bins.map qencI),.int .i64 (g.at_:Int)]
def A7Y (g:Gl):List AV := [.bool g.cross,.int .i64 (g.idx:Int),.sl g.bm 1 (g.bins.map qencI)]
theorem AV4 (g:Gl):(A5S g).length=4:=rfl
def mkP (i k:Nat):Gl:=⟨false,i,.full,[(k:Int)],k⟩
def mkC (m:Mo) (i k:Nat) (c:Cr):Gl:=⟨true,i,.any,RF (szs m c.pts) k,k⟩
def gPk (i:Nat) (p:Pt):Nat→List Gl
 | 0 => []
 | k+1=>gPk i p k ++ (if (kindOf p k == 0)=true then [mkP i k] else [])
def gP (m:Mo):Nat→List Gl
 | 0 => []
 | i+1=>gP m i ++ (match m.pts[i]? with | some p=>gPk i p p.bins.length | none => [])
def gCk (m:Mo) (i:Nat) (c:Cr):Nat→List Gl
 | 0 => []
 | k+1=>gCk m i c k ++ (if VM m c (RF (szs m c.pts) k)=true then [mkC m i k c] else [])
def gC (m:Mo):Nat→List Gl
 | 0=>gP m m.pts.length
 | i+1=>gC m i ++ (match m.crs[i]? with | some c=>gCk m i c (JO (szs m c.pts)) | none => [])
def goals (m:Mo):List Gl:=gC m m.crs.length
def cellAt (l:List Is) (i k:Nat):Int:=match l[i]? with
 | some x=>(match x.l[k]? with | some z=>z | none=>0)
 | none=>0
def A3F (v:Cvr) (g:Gl):Int:=if g.cross then cellAt v.crs g.idx g.at_ else cellAt v.pts g.idx g.at_
def InL (l:List Is) (i k:Nat):Prop := ∃ hi:i < l.length,k < (l[i]'hi).l.length
theorem AFZ {l:List Is} {i k:Nat} (h:InL l i k) : ∃ (hi:i < l.length) (hk:k < l[i].l.length),cellAt l i k=l[i].l[k]:=by
 obtain ⟨hi,hk⟩:=h
 refine ⟨hi,hk,?_⟩
 unfold cellAt
 rw [jL hi]
 simp only
 rw [jL hk]
theorem X9 {α:Type} {ok:α→Is→Bool} : ∀ {ws:List α} {xs:List Is},QG ok ws xs=true→∀ (i:Nat) (a:α),ws[i]? = some a→∃ x,xs[i]? = some x∧ok a x=true
 | [],[],_,i,a,h=>by simp at h
 | w :: ws,x :: xs,h,i,a,ha=>by
   simp only [QG,jU] at h
   cases i with
   | zero=>simp at ha; subst ha; exact ⟨x,rfl,h.1⟩
   | succ i=>exact X9 h.2 i a (by simpa using ha)
 | [],_ :: _,h,_,_,_=>by cases h
 | _ :: _,[],h,_,_,_=>by cases h
theorem AVJ {l:List Is} {i k n:Nat} {x:Is} (hx:l[i]? = some x) (hn:x.l.length=n) (hk:k < n):InL l i k:=by
 obtain ⟨hi,e⟩:=List.getElem?_eq_some_iff.1 hx
 exact ⟨hi,by rw [e]; omega⟩
theorem ldH {h:Hp} {b:Nat} {g:Gl} (hb:h[b]? = some (.live 4 [A5S g])):DX Tryz.prog h 28 (.ptr b 0 0)=some (.agg (A7Y g)):=by
 rw [G8 A6Y A2A hb rfl (by rw [AV4]; omega)]; rfl
structure Three (h H:Hp) (m:Mo) (a b:Cvr) (ab bb:Nat):Prop where
 gm:H[h.length]? = some (.live 2 [EE m])
 ga:H[ab]? = some (.live 4 [encV a])
 gb:H[bb]? = some (.live 4 [encV b])
 hx : ∃ x,H=h ++ x
theorem Three.mk' (h:Hp) (m:Mo) (a b:Cvr):Three h (h ++ [.live 2 [EE m]] ++ [.live 4 [encV a]] ++ [.live 4 [encV b]]) m a b (h ++ [ABlk.live 2 [EE m]]).length (h ++ [ABlk.live 2 [EE m]] ++ [ABlk.live 4 [encV a]]).length :=
 ⟨CU (CU (CW _ _)),CU (CW _ _),CW _ _,⟨_,by rw [zI,zI]⟩⟩
def mkB (name:ByteArray) (kind lo hi:Int):Bin:=⟨name,kind,⟨.full,[⟨lo,hi⟩]⟩,.nil,[]⟩
theorem A6N (a b:Int):KW Tryz.prog 88 [(0,.int .i64 a),(1,.int .i64 b)]=some (.agg [.int .i64 a,.int .i64 b]):=by kernel_rfl
theorem A50 (h:Hp) (a b:Int):EN Tryz.prog false h 53 1 [(0,.agg [.int .i64 a,.int .i64 b])]=some (.sl .full 2 [[.int .i64 a,.int .i64 b]],h):=by kernel_rfl
theorem A8H (s:ByteArray) (k:Int) (xs:List (List AV)):KW Tryz.prog 56 [(0,.str s),(1,.int .i64 k),(2,.sl .full 2 xs)]=some (.agg [.str s,.int .i64 k,.sl .full 2 xs,.sl .nil 0 []]):=by kernel_rfl
def rowB (s:ByteArray) (k lo hi:Int):List AV := [.str s,.int .i64 k,.sl .full 2 [[.int .i64 lo,.int .i64 hi]],.sl .nil 0 []]
theorem A35 (h:Hp) (s:ByteArray) (k lo hi:Int) (row:List AV) (hr:row.length=4):FB Tryz.prog (h ++ [.live 4 [row]]) 56 (.ptr h.length 0 0) (.agg [.str s,.int .i64 k,.sl .full 2 [[.int .i64 lo,.int .i64 hi]],.sl .nil 0 []])=some (h ++ [.live 4 [rowB s k lo hi]]):=by
 have h1:=NM (P:=Tryz.prog) (t:=56) (h:=h) (k:=4) (j:=0) (row:=row) (cs:=rowB s k lo hi) (v := .agg (rowB s k lo hi)) rfl YY (by rw [hr]; exact jK 4)
 have h2:splice row 0 (rowB s k lo hi)=rowB s k lo hi:=by unfold splice; simp [hr,rowB]
 rw [h2] at h1
 exact h1
theorem A8I (n:Int) (s:ByteArray):KW Tryz.prog 48 [(0,.int .i64 n),(2,.str s)]=some (.agg [.int .i64 n,.int .i64 0,.str s,.sl .nil 0 []]):=by kernel_rfl
theorem A8M (h:Hp):JY Tryz.prog h 25=some (.ptr h.length 0 0,h ++ [.live 2 [[.sl .nil 0 [],.sl .nil 0 []]]]):=JL (row := [.sl .nil 0 [],.sl .nil 0 []]) (by kernel_rfl)
theorem A6B (xs:List (List AV)):KW Tryz.prog 28 [(2,.sl .full 1 xs)]=some (.agg [.bool false,.int .i64 0,.sl .full 1 xs]):=by kernel_rfl
end Go.Proofs.YtfpagfhhhlljjaaGreatDoor.Cov
