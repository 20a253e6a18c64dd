/- Part 6 of the proof (M5, M6, M7, M9, M10, M11, M12, M13, M14, N4, N7, N8, N10, N12); no condition. -/
import Derived.Test.YtocilianjfhifaaGreatDoorYB5
set_option linter.unusedVariables false
set_option linter.unusedSimpArgs false
set_option maxRecDepth 8000
namespace Go.Proofs.YtocilianjfhifaaGreatDoor.Cov
open Sm Bins Go.RowKit
theorem AFS (G:Nat→AV) (xs:List Is) (m:SM) (fid:FuncId) (caps:List AV) (p:Is→Bool) (h:Hp) (hl:xs.length≤1099511627776)
  (hf : ∀ r,PCall (En G) fid (.sl r.m 1 (r.l.map encI) :: caps) h (.bool (p r))) :
  PCall (En G) 183 [.sl m 1 (xs.map encL),.fn (.func fid) [] caps] h (.int .i64 (match xs.findIdx? p with | some i=>(i:Int) | none => -1)):=by
 refine CE (H:=Hint.none) (enM G) Tryz.func183 rfl (by kernel_rfl) (by kernel_rfl) (nLb (by kernel_rfl)) ?_
 show awp _ _ _ _ _ (D9 _ [.tmp 4] _)
 simp -implicitDefEqProofs only [BC,BV,BA,A8,AY,BB,AO,AQ,AL,BD,AX,AC,AA,AZ,AU,BI,BG,A7,D8,AB,BF,↓reduceIte,Nat.reduceEqDiff,oGs,bNf,enP,YB,lLm]
 refine DY (fun n F H => ∃ k,n+k=xs.length∧F 0 = .sl m 1 (xs.map encL)∧F 1 = .fn (.func fid) [] caps∧F 7 = .int .i64 xs.length∧F 8 = .int .i64 (k:Nat)∧H=h∧(xs.take k).all (fun r => !p r)=true) xs.length ⟨0,by simp,rfl,rfl,rfl,rfl,rfl,rfl⟩ ?_
 rintro n F H ⟨k,hk,f0,f1,f7,f8,rfl,hin⟩
 simp -implicitDefEqProofs only [BC,BA,BL,A8,AY,BB,AO,AQ,AL,BD,AX,AC,AA,AZ,BU,AB,DT,↓reduceIte,oGs,bNf,enP,f0,f1,f7,f8,lLm]
 refine DC (fun hc => ?_) (fun hc => ?_)
 ·have hc':k < xs.length:=by simpa using hc
  simp -implicitDefEqProofs only [BC,BV,BA,BR,A8,AY,BB,AO,AQ,AL,BD,AX,AC,AA,AZ,BG,A7,BQ,CV,CG,BP,AB,lMc,lMn,List.nil_append,List.cons_append,↓reduceIte,Nat.reduceEqDiff,oGs,bNf,enP,TV,f0,f1,f7,f8,EF hc',EI NR hc',XU]
  refine (hf _).use ?_
  simp -implicitDefEqProofs only [BL,A8,BB,AC,AA,AZ,↓reduceIte]
  refine DC (fun hb => ?_) (fun hb => ?_)
  ·simp -implicitDefEqProofs only [BC,BA,BK,A8,CX,ED,FY,CP,AY,BB,AO,AQ,AL,BD,AX,AC,AA,AZ,BG,A7,↓reduceIte,Nat.reduceEqDiff,oGs,bNf]
   refine ⟨?_,trivial⟩
   rw [List.findIdx?_eq_some_iff_getElem.2 ⟨hc',hb,fun j hj=>by
    rw [List.all_eq_true] at hin
    have:=hin xs[j] (by rw [List.mem_take_iff_getElem]; exact ⟨j,by omega,rfl⟩)
    simpa using this⟩]
  ·simp -implicitDefEqProofs only [BA,BR,A8,EP,FC,AY,BB,AO,AQ,AL,BD,AX,AC,AA,AZ,AU,BI,BG,BU,AB,DV,↓reduceIte,Nat.reduceEqDiff,oGs,bNf,enP,f8,wrap_succ (show k < 9223372036854775807 by omega)]
   refine ⟨n - 1,by omega,k+1,by omega,f0,f1,f7,rfl,trivial,?_⟩
   rw [List.take_succ_eq_append_getElem hc',List.all_append,hin]
   simp only [List.all_cons,List.all_nil,hb]; rfl
 ·have hc' : ¬ k < xs.length:=by simpa using hc
  simp -implicitDefEqProofs only [BC,BA,BK,DW,A8,ER,FN,FM,CP,AY,BB,AO,AQ,AL,BD,AX,AC,AA,AU,BI,A7,↓reduceIte,oGs,bNf]
  refine ⟨?_,trivial⟩
  rw [List.take_of_length_le (by omega)] at hin
  rw [List.findIdx?_eq_none_iff.2 (by simpa using hin)]
theorem SK (G:Nat→AV) (xs:List Is) (m:SM) (fid:FuncId) (caps:List AV) (p:Is→Bool) (h:Hp) (hl:xs.length≤1099511627776)
  (hf : ∀ r,PCall (En G) fid (.sl r.m 1 (r.l.map encI) :: caps) h (.bool (p r))) :
  PCall (En G) 133 [.sl m 1 (xs.map encL),.fn (.func fid) [] caps] h (.bool (xs.any p)):=by
 refine CE (H:=Hint.none) (enM G) Tryz.func133 rfl (by kernel_rfl) (by kernel_rfl) (nLb (by kernel_rfl)) ?_
 show awp _ _ _ _ _ (D9 _ [.tmp 4] _)
 simp -implicitDefEqProofs only [BC,BA,A8,AY,BB,AO,AQ,AL,BD,AX,AC,AA,AZ,AU,CB,BJ,BG,A7,CG,BP,BF,BO,lMc,lMn,lAn,↓reduceIte,Nat.reduceEqDiff,oGs,bNf,enP]
 refine (AFS G xs m fid caps p h hl hf).use ?_
 simp -implicitDefEqProofs only [BK,A8,CP,AY,BB,AO,AQ,AL,BD,AX,AC,AA,AZ,AU,BI,A7,BU,AB,G6,↓reduceIte,oGs,bNf,enP]
 refine ⟨?_,trivial⟩
 cases hx:xs.findIdx? p with
 | some i =>
   obtain ⟨h1,h2,_⟩:=List.findIdx?_eq_some_iff_getElem.1 hx
   have:xs.any p=true:=List.any_eq_true.2 ⟨xs[i],by simp,h2⟩
   simp [this]
 | none =>
   have:xs.any p=false:=by
    rw [List.findIdx?_eq_none_iff] at hx
    rw [List.any_eq_false]; intro x hx2; simp [hx x hx2]
   simp [this]
theorem AC1 (G:Nat→AV) (ns:List Nat) (s:SM) (b:Nat) (r:Is) (h:Hp) (hb:h[b]? = some (.live 1 [[.sl s 1 (ns.map JE)]])) (hn:ns.length≤1048576) :
  PCall (En G) 181 [.sl r.m 1 (r.l.map encI),.ptr b 0 0] h (.bool (!P6 ns r.l)):=by
 refine CE (H:=Hint.none) (enM G) Tryz.func181 rfl (by kernel_rfl) (by kernel_rfl) (nLb (by kernel_rfl)) ?_
 show awp _ _ _ _ _ (D9 _ [.tmp 3] _)
 simp -implicitDefEqProofs only [BC,BA,A8,AY,BB,AO,AQ,AL,BD,AX,AC,AA,AZ,AU,CB,BJ,BG,A7,BQ,CG,BP,AB,BF,BO,lMc,lMn,lAn,↓reduceIte,Nat.reduceEqDiff,oGs,bNf,enP,IU NR hb]
 refine (inside_prog G ns r.l s r.m h hn).use ?_
 simp -implicitDefEqProofs only [BK,A8,CP,AY,BB,AO,AQ,AL,BD,AX,AC,AA,AZ,A7,GV,AB,EX,↓reduceIte,oGs,bNf]
 exact ⟨trivial,trivial⟩
def YD (n:Nat):Option Int→List Int→Bool
 | _,[]=>true
 | o,p :: ps=>(decide (0≤p) && decide (p < (n:Int)) && (match o with | some q=>decide (q < p) | none=>true)) && YD n (some p) ps
def prev (l:List Int) (k:Nat):Option Int:=match k with
 | 0=>none
 | k+1=>l[k]?
theorem ALN (n:Nat) (l:List Int) (k:Nat) (hk:k < l.length):YD n (prev l k) (l.drop k)=((decide (0≤l[k]) && decide (l[k] < (n:Int)) && (match prev l k with | some q=>decide (q < l[k]) | none=>true)) && YD n (prev l (k+1)) (l.drop (k+1))):=by
 rw [List.drop_eq_getElem_cons hk]
 have:prev l (k+1)=some l[k]:=by unfold prev; exact List.getElem?_eq_getElem hk
 rw [this]; rfl
theorem WI {m:Mo} : ∀ {l:List Int} {o:Option Int},YD m.pts.length o l=true→Here m l
 | [],_,_=>fun p hp=>by cases hp
 | x :: l,o,h=>by
   simp only [YD,Bool.and_eq_true,decide_eq_true_eq] at h
   intro p hp
   cases List.mem_cons.1 hp with
   | inl e=>subst e; exact ⟨h.1.1.1,h.1.1.2⟩
   | inr e=>exact WI h.2 p e
def JG (m:Mo) (c:Cr):Int :=
 if GK c.name=false then 7 else if c.pts.length < 2∨4 < c.pts.length then 1 else if YD m.pts.length none c.pts=false then 1 else
  if 256 < I4 (szs m c.pts)∨256 < c.excl.length then 2 else if (c.excl.any fun x => !P6 (szs m c.pts) x.l) then 1 else 0
structure CrOk (c:Cr):Prop where
 name:c.name.size≤1048576
 pts:c.pts.length≤1048576
 excl:c.excl.length≤1048576
 each : ∀ x∈c.excl,x.l.length≤1048576
def Full (m:Mo):Prop := ∀ p∈m.pts,1≤p.bins.length∧p.bins.length≤64
theorem Full.szs {m:Mo} {l:List Int} (hf:Full m) (hh:Here m l) : ∀ n∈szs m l,1≤n∧n≤64:=by
 intro n hn
 obtain ⟨p,hp,rfl⟩:=List.mem_map.1 hn
 obtain ⟨h0,h1⟩:=hh p hp
 have hlt:p.toNat < m.pts.length:=by omega
 have:KE m p=(m.pts[p.toNat]).bins:=by unfold KE; rw [List.getElem?_eq_getElem hlt]
 rw [this]
 exact hf _ (List.getElem_mem hlt)
theorem AY7 (h:Hp):I9 Tryz.prog h 57=some (.ptr h.length 0 0,h ++ [.live 1 [[.sl .nil 0 []]]]):=IY (row := [.sl .nil 0 []]) (by kernel_rfl)
theorem ldM {h:Hp} {b:Nat} {m:Mo} (hb:h[b]? = some (.live 2 [EC m])):DL Tryz.prog h 25 (.ptr b 0 0)=some (.agg (EC m)):=by
 rw [IK AVE AM2 hb rfl (by rw [AOV]; exact Nat.le_refl 2)]; rfl
theorem ldC {h:Hp} {b:Nat} {c:Cr} (hb:h[b]? = some (.live 3 [F5 c])):DL Tryz.prog h 71 (.ptr b 0 0)=some (.agg (F5 c)):=by
 rw [IK AGV AAX hb rfl (by rw [J8]; exact Nat.le_refl 3)]; rfl
theorem AII (G:Nat→AV) (hG:GOk G) (m:Mo) (c:Cr) (hc:CrOk c) (hf:Full m) (h:Hp):PCall (En G) 130 [.agg (EC m),.agg (F5 c)] h (.int .i64 (JG m c)):=by
 refine ACalls.pure0 rfl ?_
 have hc1:=hc.name
 have hc2:=hc.pts
 have hc3:=hc.excl
 refine CE (H:=Hint.none) (enM G) Tryz.func130 rfl (by kernel_rfl) (by kernel_rfl) (nLb (by kernel_rfl)) ?_
 show awp _ _ _ _ _ (D9 _ [.tmp 4] _)
 have gm:(h ++ [ABlk.live 2 [EC m]] ++ [ABlk.live 3 [F5 c]])[h.length]? = some (.live 2 [EC m]):=CJ (C9 _ _)
 have gc:(h ++ [ABlk.live 2 [EC m]] ++ [ABlk.live 3 [F5 c]])[(h ++ [ABlk.live 2 [EC m]]).length]? = some (.live 3 [F5 c]):=C9 _ _
 have hx : ∃ x,h ++ [ABlk.live 2 [EC m]] ++ [ABlk.live 3 [F5 c]]=h ++ x:=⟨_,List.append_assoc _ _ _⟩
 have hlt:h.length < (h ++ [ABlk.live 2 [EC m]]).length:=by simp
 simp -implicitDefEqProofs only [BC,BA,A8,AY,BB,AO,AQ,AL,BD,AX,AC,AA,AZ,AU,BI,A7,FX,BQ,BM,BX,AB,BF,BO,↓reduceIte,Nat.reduceEqDiff,Nat.add_zero,oGs,bNf,enP,AOJ,bxM,bxC]
 generalize h ++ [ABlk.live 2 [EC m]] ++ [ABlk.live 3 [F5 c]]=H at gm gc hx ⊢
 generalize (h ++ [ABlk.live 2 [EC m]]).length=cb at gc hlt ⊢
 have lm:DL Tryz.prog H 22 (.ptr h.length 0 0)=some (.sl m.pm 6 (m.pts.map FO)):=by rw [DK U7 gm (row:=EC m) rfl,O8]
 have lc0:DL Tryz.prog H 9 (.ptr cb 0 0)=some (.str c.name):=by rw [DK ag9 gc (row:=F5 c) rfl,AOW]
 have lc1:DL Tryz.prog H 57 (.ptr cb 0 1)=some (.sl c.pm 1 (c.pts.map encI)):=by rw [DK NR gc (row:=F5 c) rfl,AGB]
 have lc2:DL Tryz.prog H 26 (.ptr cb 0 2)=some (.sl c.xm 1 (c.excl.map encL)):=by rw [DK OA gc (row:=F5 c) rfl,AJ9]
 simp -implicitDefEqProofs only [AY,AO,AQ,AL,BD,AX,AC,AA,AZ,CB,CG,BP,AB,lMc,lMn,lAn,↓reduceIte,oGs,bNf,lc0]
 refine (L6 G hG.kw c.name _ (by omega)).use ?_
 simp -implicitDefEqProofs only [BL,A8,AY,BB,AO,AQ,AL,BD,AX,AC,AA,AZ,GV,AB,EX,↓reduceIte,oGs,bNf]
 cases h1:GK c.name
 ·simp -implicitDefEqProofs only [BC,BA,BK,A8,CX,CP,DU,AY,BB,AO,AQ,AL,BD,AX,AC,AA,AU,BI,A7,↓reduceIte,oGs,bNf]
  exact ⟨by unfold JG; rw [if_pos h1],hx⟩
 have h1' : ¬ GK c.name=false:=by rw [h1]; decide
 simp -implicitDefEqProofs only [BC,BA,BR,A8,D5,AY,BH,BN,CO,AO,AQ,AL,BD,AX,AC,AA,AZ,AU,BI,BG,BQ,BU,BM,D8,AB,DT,↓reduceIte,Nat.reduceEqDiff,Nat.zero_add,oGs,bNt,bNf,enP,J6,SB,lc1,lLm]
 refine GU (fun h2 => ?_) (fun h2 => ?_)
 ·simp -implicitDefEqProofs only [BC,BA,BK,BL,A8,CX,CP,DU,AY,BB,BH,BN,CO,FP,AO,AQ,AL,BD,AX,AC,AA,EJ,AZ,AU,BI,BJ,A7,CQ,DR,↓reduceIte,Nat.reduceEqDiff,oGs,bNf,h2]
  exact ⟨by unfold JG; rw [if_neg h1',if_pos (.inl (by simp at h2; omega))],hx⟩
 simp -implicitDefEqProofs only [BL,A8,AY,BB,BH,BN,CO,EG,AO,AQ,AL,BD,AX,AC,AA,AZ,AU,BI,BJ,CQ,DN,BQ,BU,BM,D8,AB,FU,↓reduceIte,Nat.reduceEqDiff,Nat.zero_add,oGs,bNf,enP,J6,SB,h2,lc1,lLm]
 refine DC (fun h3 => ?_) (fun h3 => ?_)
 ·simp -implicitDefEqProofs only [BC,BA,BK,A8,CX,CP,AY,BB,AO,AQ,AL,BD,AX,AC,AA,AU,BI,A7,↓reduceIte,oGs,bNf]
  exact ⟨by unfold JG; rw [if_neg h1',if_pos (.inr (by simp at h3; omega))],hx⟩
 have h23 : ¬ (c.pts.length < 2∨4 < c.pts.length):=by simp at h2 h3; omega
 simp -implicitDefEqProofs only [BC,BV,BA,BR,A8,AY,BB,AO,AQ,AL,BD,AX,AC,AA,AZ,AU,BI,BG,BQ,BM,D8,AB,↓reduceIte,Nat.reduceEqDiff,Nat.zero_add,oGs,bNf,enP,J6,SB,lc1,lLm]
 refine JJ 0 (fun F H'=>F 2 = .ptr h.length 0 0∧F 3 = .ptr cb 0 0∧H'=H∧YD m.pts.length none c.pts=true) (fun F H'=>F 4 = .int .i64 1∧H'=H∧YD m.pts.length none c.pts=false) ?_ ?_ ?_
 ·refine DY (fun n F H' => ∃ k,n+k=c.pts.length∧F 2 = .ptr h.length 0 0∧F 3 = .ptr cb 0 0∧F 23 = .sl c.pm 1 (c.pts.map encI)∧F 24 = .int .i64 c.pts.length∧F 25 = .int .i64 (k:Nat)∧H'=H∧YD m.pts.length none c.pts=YD m.pts.length (prev c.pts k) (c.pts.drop k)) c.pts.length ⟨0,by simp,by simp -implicitDefEqProofs only [AA,↓reduceIte,Nat.reduceEqDiff],by simp -implicitDefEqProofs only [AA,↓reduceIte,Nat.reduceEqDiff],by simp -implicitDefEqProofs only [AA,↓reduceIte,Nat.reduceEqDiff],by simp -implicitDefEqProofs only [AA,↓reduceIte,Nat.reduceEqDiff],by simp -implicitDefEqProofs only [AA,↓reduceIte]; rfl,rfl,rfl⟩ ?_
  rintro n F H' ⟨k,hk,f2,f3,f23,f24,f25,rfl,hi⟩
  simp -implicitDefEqProofs only [BC,BA,BL,A8,AY,BB,AO,AQ,AL,BD,AX,AC,AA,AZ,BU,AB,DT,↓reduceIte,oGs,bNf,enP,f24,f25]
  refine DC (fun hlt => ?_) (fun hlt => ?_)
  ·have hk':k < c.pts.length:=by simpa using hlt
   rw [ALN _ _ _ hk'] at hi
   simp -implicitDefEqProofs only [BC,BV,BA,BR,A8,AY,BB,BH,BN,CO,AO,AQ,AL,BD,AX,AC,AA,AZ,AU,BI,BG,A7,BQ,BU,CV,AB,DT,↓reduceIte,Nat.reduceEqDiff,oGs,bNf,enP,MB,f2,f3,f23,f25,EF hk',EI ag3 hk',encI0]
   refine GU (fun ha => ?_) (fun ha => ?_)
   ·simp -implicitDefEqProofs only [BC,BA,BK,BL,A8,CX,ED,TU,FY,DU,AY,BB,BH,BN,CO,FP,Q9,AO,AQ,AL,BD,AX,AC,AA,EJ,AZ,AU,BI,BJ,BG,A7,CQ,DR,↓reduceIte,Nat.reduceEqDiff,oGs,bNf,ha]
    have:decide (0≤c.pts[k])=false:=by simp at ha ⊢; omega
    exact ⟨trivial,trivial,by rw [hi,this]; rfl⟩
   have ha':decide (0≤c.pts[k])=true:=by simp at ha ⊢; omega
   simp -implicitDefEqProofs only [AY,BH,BN,CO,EG,AO,AQ,AL,BD,AX,AC,AA,AZ,AU,BJ,BG,CQ,DN,BQ,BU,BM,D8,AB,G6,↓reduceIte,Nat.reduceEqDiff,Nat.add_zero,oGs,bNf,enP,UY,LP,ha,f2,lm,lLm]
   refine GU (fun hb => ?_) (fun hb => ?_)
   ·simp -implicitDefEqProofs only [BC,BA,BK,BL,A8,CX,ED,TU,FY,DU,AY,BB,BH,BN,CO,FP,Q9,AO,AQ,AL,BD,AX,AC,AA,EJ,AZ,AU,BI,BJ,A7,CQ,DR,↓reduceIte,Nat.reduceEqDiff,oGs,bNf,hb]
    have:decide (c.pts[k] < (m.pts.length:Int))=false:=by simp at hb ⊢; omega
    exact ⟨trivial,trivial,by rw [hi,this,ha']; rfl⟩
   have hb':decide (c.pts[k] < (m.pts.length:Int))=true:=by simp at hb ⊢; omega
   rw [ha',hb'] at hi
   simp only [Bool.true_and] at hi
   cases k with
   | zero =>
     have hz:decide ((((0:Nat):Int)) > 0)=false:=by decide
     simp -implicitDefEqProofs only [BA,BR,BL,A8,EP,FC,D5,AY,BB,BH,BN,CO,EG,G5,AO,AQ,AL,BD,AX,AC,AA,EJ,AZ,AU,BI,BJ,BG,CQ,DN,BU,AB,DV,FU,↓reduceIte,Nat.reduceEqDiff,Nat.zero_add,oGs,bNf,enP,hb,hz,f25,wrap_succ (show 0 < 9223372036854775807 by omega)]
     exact ⟨n - 1,by omega,1,by omega,f2,f3,f23,f24,rfl,trivial,by rw [hi]; rfl⟩
   | succ k =>
     have hz:decide ((((k+1:Nat):Int)) > 0)=true:=by simp
     have hw:IntKind.i64.wrap (((k+1:Nat):Int) - 1)=(k:Int):=by rw [wrap_i64 (by omega) (by omega)]; omega
     have hk2:k < c.pts.length:=by omega
     have hpv:prev c.pts (k+1)=some c.pts[k]:=by unfold prev; exact List.getElem?_eq_getElem hk2
     rw [hpv] at hi
     simp -implicitDefEqProofs only [BL,A8,AY,BB,BH,BN,CO,FV,EG,AO,AQ,AL,BD,AX,AC,AA,AZ,AU,BI,BJ,BG,CQ,DR,DN,BQ,BU,BM,CV,AB,NH,IV,FU,↓reduceIte,Nat.reduceEqDiff,Nat.zero_add,oGs,bNf,enP,MB,SB,hb,hz,f3,lc1,hw,EF hk2,EI ag3 hk2,encI0]
     refine DC (fun hd => ?_) (fun hd => ?_)
     ·simp -implicitDefEqProofs only [BC,BA,BK,A8,CX,ED,TU,FY,AY,BB,AO,AQ,AL,BD,AX,AC,AA,AU,BI,A7,↓reduceIte,oGs,bNf]
      have:decide (c.pts[k] < c.pts[k+1])=false:=by simp at hd ⊢; omega
      exact ⟨trivial,trivial,by rw [hi]; simp only [this]; rfl⟩
     ·simp -implicitDefEqProofs only [BA,BR,A8,EP,FC,AY,BB,AO,AQ,AL,BD,AX,AC,AA,AZ,AU,BI,BG,BU,AB,DV,↓reduceIte,Nat.reduceEqDiff,oGs,bNf,enP,f25,wrap_succ (show k+1 < 9223372036854775807 by omega)]
      have:decide (c.pts[k] < c.pts[k+1])=true:=by simp at hd ⊢; omega
      exact ⟨n - 1,by omega,k+1+1,by omega,f2,f3,f23,f24,rfl,trivial,by rw [hi]; simp only [this]; rfl⟩
  ·have hk' : ¬ k < c.pts.length:=by simpa using hlt
   simp -implicitDefEqProofs only [DW,ER,O1,FM,AA,↓reduceIte,Nat.reduceEqDiff]
   exact ⟨f2,f3,trivial,by rw [hi,List.drop_eq_nil_of_le (by omega)]; rfl⟩
 ·rintro F H' ⟨f2,f3,rfl,hi⟩
  have hh:=WI hi
  have hi' : ¬ YD m.pts.length none c.pts=false:=by rw [hi]; decide
  simp -implicitDefEqProofs only [BC,BA,A8,FN,AY,AO,AQ,AL,BD,AX,AC,AA,AZ,CB,BQ,CG,BP,AB,lMc,lMn,lAn,↓reduceIte,Nat.reduceEqDiff,oGs,bNf,enP,f2,f3,ldM gm,ldC gc]
  refine (OX G m c _ hh (by omega)).use ?_
  have hsz:(szs m c.pts).length≤4:=by unfold szs; simp; omega
  have hst:=PM (t:=57) (v := .sl .nil 0 []) (u := .sl (nm (szs m c.pts)) 1 ((szs m c.pts).map JE)) YZ (APV _ _ _) (C9 H' (.live 1 [[.sl .nil 0 []]]))
  rw [ACU] at hst
  simp -implicitDefEqProofs only [BC,BV,BA,A8,AY,BB,AO,AQ,AL,BD,AX,AC,EM,AA,AZ,CB,EZ,BQ,D6,CG,BP,BX,AB,DI,lMc,lMn,lAn,↓reduceIte,Nat.reduceEqDiff,oGs,bNf,enP,Option.getD_none,AY7,hst,IU NR (C9 H' _)]
  refine (OH G _ _ _ (fun n hn=>(hf.szs hh n hn).2) hsz).use ?_
  have hx2 : ∃ x,H' ++ [ABlk.live 1 [[AV.sl (nm (szs m c.pts)) 1 ((szs m c.pts).map JE)]]]=h ++ x:=by
   obtain ⟨x,hx⟩:=hx
   exact ⟨x ++ _,by rw [hx,List.append_assoc]⟩
  have lc2' : ∀ x,DL Tryz.prog (H' ++ [x]) 26 (.ptr cb 0 2)=some (.sl c.xm 1 (c.excl.map encL)):=fun x=>by rw [DK OA (CJ gc) (row:=F5 c) rfl,AJ9]
  simp -implicitDefEqProofs only [AY,BH,BN,CO,AO,AQ,AL,BD,AX,AC,AA,AZ,AU,BI,BG,BU,AB,FU,↓reduceIte,oGs,bNf,enP]
  refine GU (fun ha => ?_) (fun ha => ?_)
  ·simp -implicitDefEqProofs only [BC,BA,BK,BL,A8,CX,ED,CP,DU,AY,BB,BH,BN,CO,FP,AO,AQ,AL,BD,AX,AC,AA,EJ,AZ,AU,BI,BJ,A7,CQ,DR,↓reduceIte,Nat.reduceEqDiff,oGs,bNf,ha]
   exact ⟨by unfold JG; rw [if_neg h1',if_neg h23,if_neg hi',if_pos (.inl (by simp at ha; omega))],hx2⟩
  simp -implicitDefEqProofs only [BL,A8,AY,BB,BH,BN,CO,EG,AO,AQ,AL,BD,AX,AC,AA,AZ,AU,BI,BJ,A7,CQ,DN,BQ,BU,BM,D8,AB,FU,↓reduceIte,Nat.reduceEqDiff,Nat.zero_add,oGs,bNf,enP,YB,ADE,ha,f3,lc2',lLm]
  refine DC (fun hb => ?_) (fun hb => ?_)
  ·simp -implicitDefEqProofs only [BC,BA,BK,A8,CX,ED,CP,AY,BB,AO,AQ,AL,BD,AX,AC,AA,AU,BI,A7,↓reduceIte,oGs,bNf]
   exact ⟨by unfold JG; rw [if_neg h1',if_neg h23,if_neg hi',if_pos (.inr (by simp at hb; omega))],hx2⟩
  have hab : ¬ (256 < I4 (szs m c.pts)∨256 < c.excl.length):=by simp at ha hb; omega
  simp -implicitDefEqProofs only [BC,BA,AY,AO,AQ,AL,BD,AX,AC,AA,AZ,CB,BQ,G8,BM,CG,BP,AB,lMc,lMn,lAn,↓reduceIte,Nat.reduceEqDiff,Nat.zero_add,oGs,bNf,enP,ADE,f3,lc2']
  refine (SK G c.excl c.xm 181 _ (fun x => !P6 (szs m c.pts) x.l) _ (by omega) fun r=>AC1 G _ _ _ r _ (C9 H' _) (by omega)).use ?_
  simp -implicitDefEqProofs only [BL,A8,AY,BB,AO,AQ,AL,BD,AX,AC,AA,AZ,A7,↓reduceIte,oGs,bNf]
  cases he:c.excl.any fun x => !P6 (szs m c.pts) x.l
  ·simp -implicitDefEqProofs only [BC,BA,BR,BK,A8,EP,CP,D5,AY,BB,AO,AQ,AL,BD,AX,AC,AA,AU,BI,A7,↓reduceIte,oGs,bNf]
   exact ⟨by unfold JG; rw [if_neg h1',if_neg h23,if_neg hi',if_neg hab,he]; rfl,hx2⟩
  ·simp -implicitDefEqProofs only [BC,BA,BK,A8,CX,ED,CP,DU,AY,BB,AO,AQ,AL,BD,AX,AC,AA,AU,BI,A7,↓reduceIte,oGs,bNf]
   exact ⟨by unfold JG; rw [if_neg h1',if_neg h23,if_neg hi',if_neg hab,he]; rfl,hx2⟩
 ·rintro F H' ⟨f4,rfl,hi⟩
  simp -implicitDefEqProofs only [CX,ED,CP,f4]
  exact ⟨by unfold JG; rw [if_neg h1',if_neg h23,if_pos hi],hx⟩
theorem VE (m:Mo) (l:List Int):(szs m l).length=l.length:=by unfold szs; simp
structure Two (h H:Hp) (m:Mo) (c:Cr) (cb:Nat):Prop where
 gm:H[h.length]? = some (.live 2 [EC m])
 gc:H[cb]? = some (.live 3 [F5 c])
 hx : ∃ x,H=h ++ x
theorem Two.lm {h H:Hp} {m:Mo} {c:Cr} {cb:Nat} (t:Two h H m c cb):DL Tryz.prog H 22 (.ptr h.length 0 0)=some (.sl m.pm 6 (m.pts.map FO)):=by rw [DK U7 t.gm (row:=EC m) rfl,O8]
theorem Two.l0 {h H:Hp} {m:Mo} {c:Cr} {cb:Nat} (t:Two h H m c cb):DL Tryz.prog H 9 (.ptr cb 0 0)=some (.str c.name):=by rw [DK ag9 t.gc (row:=F5 c) rfl,AOW]
theorem Two.l1 {h H:Hp} {m:Mo} {c:Cr} {cb:Nat} (t:Two h H m c cb):DL Tryz.prog H 57 (.ptr cb 0 1)=some (.sl c.pm 1 (c.pts.map encI)):=by rw [DK NR t.gc (row:=F5 c) rfl,AGB]
theorem Two.l2 {h H:Hp} {m:Mo} {c:Cr} {cb:Nat} (t:Two h H m c cb):DL Tryz.prog H 26 (.ptr cb 0 2)=some (.sl c.xm 1 (c.excl.map encL)):=by rw [DK OA t.gc (row:=F5 c) rfl,AJ9]
theorem Two.mk' (h:Hp) (m:Mo) (c:Cr):Two h (h ++ [.live 2 [EC m]] ++ [.live 3 [F5 c]]) m c (h ++ [ABlk.live 2 [EC m]]).length:=⟨CJ (C9 _ _),C9 _ _,⟨_,List.append_assoc _ _ _⟩⟩
structure MoOk (m:Mo):Prop where
 np:m.pts.length≤1048576
 nc:m.crs.length≤1048576
 pts : ∀ p∈m.pts,PtOk p
 crs : ∀ c∈m.crs,CrOk c
def FW (m:Mo):Int :=
 if 16 < m.pts.length+m.crs.length then 2 else if KD IL m.pts≠0 then KD IL m.pts else if Q8 (m.pts.map (·.name)) then 8 else
  if KD (JG m) m.crs≠0 then KD (JG m) m.crs else if Q8 (m.crs.map (·.name)) then 8 else 0
theorem VR {α:Type} (f:α→Int) : ∀ {xs:List α},KD f xs=0→∀ x∈xs,f x=0
 | [],_,_,hx=>by cases hx
 | y :: ys,h,x,hx=>by
   simp only [KD] at h
   split at h
   ·rename_i h0
    cases List.mem_cons.1 hx with
    | inl e=>subst e; exact h0
    | inr e=>exact VR f h x e
   ·rename_i h0; exact absurd h h0
theorem AFF {p:Pt} (h:IL p=0):1≤p.bins.length∧p.bins.length≤64:=by
 unfold IL at h
 split at h
 ·cases h
 ·split at h
  ·rename_i h2; exact absurd h h2
  ·split at h
   ·cases h
   ·split at h
    ·cases h
    ·omega
theorem full_of {m:Mo} (h:KD IL m.pts=0):Full m:=fun p hp=>AFF (VR _ h p hp)
theorem APS (h:Hp):I9 Tryz.prog h 56=some (.ptr h.length 0 0,h ++ [.live 6 [[.str ⟨#[]⟩,.int .i64 0,.int .i64 0,.str ⟨#[]⟩,.sl .nil 0 [],.sl .nil 0 []]]]):=IY (row := [.str ⟨#[]⟩,.int .i64 0,.int .i64 0,.str ⟨#[]⟩,.sl .nil 0 [],.sl .nil 0 []]) (by kernel_rfl)
theorem AM7 (h:Hp) (p:Pt) (row:List AV) (hr:row.length=6):EY Tryz.prog (h ++ [.live 6 [row]]) 56 (.ptr h.length 0 0) (.agg (FO p))=some (h ++ [.live 6 [FO p]]):=by
 rw [KN (SS (AB5 p)) (by rw [II]; exact X8) (by rw [II,hr]; exact Nat.le_refl _)]
 have:splice row 0 (FO p)=FO p:=by unfold splice; simp [II,hr]
 rw [this]
theorem ldP {h:Hp} {b:Nat} {p:Pt} (hb:h[b]? = some (.live 6 [FO p])):DL Tryz.prog h 56 (.ptr b 0 0)=some (.agg (FO p)):=by
 rw [IK AA9 X8 hb rfl (by rw [II]; exact Nat.le_refl 6),List.drop_zero,List.take_of_length_le (by rw [II]; exact Nat.le_refl 6)]
theorem APR (h:Hp):I9 Tryz.prog h 71=some (.ptr h.length 0 0,h ++ [.live 3 [[.str ⟨#[]⟩,.sl .nil 0 [],.sl .nil 0 []]]]):=IY (row := [.str ⟨#[]⟩,.sl .nil 0 [],.sl .nil 0 []]) (by kernel_rfl)
theorem AM6 (h:Hp) (c:Cr) (row:List AV) (hr:row.length=3):EY Tryz.prog (h ++ [.live 3 [row]]) 71 (.ptr h.length 0 0) (.agg (F5 c))=some (h ++ [.live 3 [F5 c]]):=by
 rw [KN (SS rfl) (by rw [J8]; exact AAX) (by rw [J8,hr]; exact Nat.le_refl _)]
 have:splice row 0 (F5 c)=F5 c:=by unfold splice; simp [J8,hr]
 rw [this]
theorem LH (G:Nat→AV) (hG:GOk G) (m:Mo) (hm:MoOk m) (h:Hp):PCall (En G) 68 [.agg (EC m)] h (.int .i64 (FW m)):=by
 refine ACalls.pure0 rfl ?_
 have hm1:=hm.np
 have hm2:=hm.nc
 refine CE (H:=Hint.none) (enM G) Tryz.func68 rfl (by kernel_rfl) (by kernel_rfl) (nLb (by kernel_rfl)) ?_
 show awp _ _ _ _ _ (D9 _ [.tmp 2] _)
 have hw:IntKind.i64.wrap ((m.pts.length:Int)+(m.crs.length:Int))=(m.pts.length:Int)+(m.crs.length:Int):=wrap_i64 (by omega) (by omega)
 simp -implicitDefEqProofs only [BC,BA,BL,A8,AY,BB,AO,AQ,AL,BD,AX,AC,AA,AZ,AU,BI,A7,FX,BQ,BU,BM,D8,BX,AB,DV,FU,BF,↓reduceIte,Nat.reduceEqDiff,Nat.add_zero,Nat.zero_add,oGs,bNf,enP,UY,AA1,LP,N9,bxM,DJ U7,DJ AD3,O8,VX,lLm,hw]
 refine DC (fun h1 => ?_) (fun h1 => ?_)
 ·simp -implicitDefEqProofs only [BC,BA,BK,A8,CX,CP,AY,BB,AO,AQ,AL,BD,AX,AC,AA,AU,BI,A7,↓reduceIte,oGs,bNf]
  exact ⟨by unfold FW; rw [if_pos (by simp at h1; omega)],_,rfl⟩
 have h1' : ¬ 16 < m.pts.length+m.crs.length:=by simp at h1; omega
 have hme:FW m=if KD IL m.pts≠0 then KD IL m.pts else if Q8 (m.pts.map (·.name)) then 8 else if KD (JG m) m.crs≠0 then KD (JG m) m.crs else if Q8 (m.crs.map (·.name)) then 8 else 0:=by
  unfold FW; rw [if_neg h1']
 have lm0 : ∀ H:Hp,H[h.length]? = some (.live 2 [EC m])→DL Tryz.prog H 22 (.ptr h.length 0 0)=some (.sl m.pm 6 (m.pts.map FO)):=fun H hH=>by rw [DK U7 hH (row:=EC m) rfl,O8]
 have lm1 : ∀ H:Hp,H[h.length]? = some (.live 2 [EC m])→DL Tryz.prog H 23 (.ptr h.length 0 1)=some (.sl m.cm 3 (m.crs.map F5)):=fun H hH=>by rw [DK AD3 hH (row:=EC m) rfl,VX]
 simp -implicitDefEqProofs only [BC,BV,BA,BR,A8,AY,BB,AO,AQ,AL,BD,AX,AC,AA,AZ,AU,BI,BG,BQ,BM,D8,AB,↓reduceIte,Nat.reduceEqDiff,Nat.add_zero,oGs,bNf,enP,UY,LP,DJ U7,O8,lLm]
 refine JJ 0 (fun F H=>F 1 = .ptr h.length 0 0∧H[h.length]? = some (.live 2 [EC m])∧(∃ x,H=h ++ x)∧KD IL m.pts=0) (fun F H=>F 2 = .int .i64 (FW m)∧∃ x,H=h ++ x) ?_ ?_ ?_
 ·refine DY (fun n F H => ∃ k,n+k=m.pts.length∧F 1 = .ptr h.length 0 0∧F 18 = .sl m.pm 6 (m.pts.map FO)∧F 19 = .int .i64 m.pts.length∧F 20 = .int .i64 (k:Nat)∧H[h.length]? = some (.live 2 [EC m])∧(∃ x,H=h ++ x)∧KD IL m.pts=KD IL (m.pts.drop k)) m.pts.length ⟨0,by simp,by simp -implicitDefEqProofs only [AA,↓reduceIte,Nat.reduceEqDiff],by simp -implicitDefEqProofs only [AA,↓reduceIte,Nat.reduceEqDiff],by simp -implicitDefEqProofs only [AA,↓reduceIte,Nat.reduceEqDiff],by simp -implicitDefEqProofs only [AA,↓reduceIte]; rfl,C9 _ _,⟨_,rfl⟩,rfl⟩ ?_
  rintro n F H ⟨k,hk,f1,f18,f19,f20,hb,⟨x,hx⟩,hf⟩
  simp -implicitDefEqProofs only [BC,BA,BL,A8,AY,BB,AO,AQ,AL,BD,AX,AC,AA,AZ,BU,AB,DT,↓reduceIte,oGs,bNf,enP,f19,f20]
  refine DC (fun hc => ?_) (fun hc => ?_)
  ·have hk':k < m.pts.length:=by simpa using hc
   have hs:=TI IL m.pts k hk'
   simp -implicitDefEqProofs only [BC,BV,BA,BR,A8,AY,BB,AO,AQ,AL,BD,AX,AC,EM,AA,AZ,CB,EZ,BQ,D6,CV,CG,BP,BX,AB,DI,lMc,lMn,lAn,↓reduceIte,Nat.reduceEqDiff,oGs,bNf,enP,UZ,Option.getD_none,f18,f20,EF hk',FK AA9 X8 II hk',APS,AM7 _ _ [.str ⟨#[]⟩,.int .i64 0,.int .i64 0,.str ⟨#[]⟩,.sl .nil 0 [],.sl .nil 0 []] rfl,ldP (C9 H (.live 6 [FO m.pts[k]]))]
   refine (ZA G hG m.pts[k] (hm.pts _ (List.getElem_mem hk')) _).use ?_
   simp -implicitDefEqProofs only [BC,BA,BL,A8,AY,BB,AO,AQ,AL,BD,AX,AC,AA,AZ,AU,BI,BG,A7,BU,AB,EQ,↓reduceIte,oGs,bNf,enP]
   refine DC (fun hv => ?_) (fun hv => ?_)
   ·simp -implicitDefEqProofs only [BC,BA,BK,A8,CX,ED,TU,FY,AY,BB,AO,AQ,AL,BD,AX,AC,AA,AZ,BG,A7,↓reduceIte,Nat.reduceEqDiff,oGs,bNf]
    have hv':IL m.pts[k]≠0:=by simpa using hv
    have:KD IL m.pts=IL m.pts[k]:=by rw [hf,hs,if_neg hv']
    exact ⟨by rw [hme,this,if_pos hv'],x ++ _,by rw [hx,List.append_assoc]⟩
   ·have hv':IL m.pts[k]=0:=by simpa using hv
    simp -implicitDefEqProofs only [BA,BR,A8,EP,FC,AY,BB,AO,AQ,AL,BD,AX,AC,AA,AZ,AU,BI,BG,BU,AB,DV,↓reduceIte,Nat.reduceEqDiff,oGs,bNf,enP,f20,wrap_succ (show k < 9223372036854775807 by omega)]
    exact ⟨n - 1,by omega,k+1,by omega,f1,f18,f19,rfl,CJ hb,⟨x ++ _,by rw [hx,List.append_assoc]⟩,by rw [hf,hs,if_pos hv']⟩
  ·have hk' : ¬ k < m.pts.length:=by simpa using hc
   simp -implicitDefEqProofs only [DW,ER,O1,FM,AA,↓reduceIte,Nat.reduceEqDiff]
   exact ⟨f1,hb,⟨x,hx⟩,by rw [hf,List.drop_eq_nil_of_le (by omega)]; rfl⟩
 ·rintro F H ⟨f1,hb,hx0,hf⟩
  have hfull:=full_of hf
  rw [hf,if_neg (fun hh=>hh rfl)] at hme
  simp -implicitDefEqProofs only [BC,BA,A8,FN,AY,AO,AQ,AL,BD,AX,AC,AA,AZ,CB,BQ,BM,CG,BP,AB,lMc,lMn,lAn,↓reduceIte,Nat.add_zero,oGs,bNf,enP,LP,f1,lm0 _ hb]
  refine (AK3 G m.pts m.pm H (by omega)).use ?_
  simp -implicitDefEqProofs only [BL,A8,BB,AC,AA,AZ,↓reduceIte]
  cases hd:Q8 (m.pts.map (·.name))
  case true =>
   simp -implicitDefEqProofs only [BC,BA,BK,A8,CX,CP,DU,AY,BB,AO,AQ,AL,BD,AX,AC,AA,AU,BI,A7,↓reduceIte,oGs,bNf]
   exact ⟨by rw [hme,hd]; rfl,hx0⟩
  rw [hd] at hme
  simp only [Bool.false_eq_true,if_false] at hme
  simp -implicitDefEqProofs only [BC,BV,BA,BR,A8,D5,AY,BB,AO,AQ,AL,BD,AX,AC,AA,AZ,AU,BI,BG,BQ,BM,D8,AB,↓reduceIte,Nat.reduceEqDiff,Nat.zero_add,oGs,bNf,enP,AA1,N9,f1,lm1 _ hb,lLm]
  refine JJ 2 (fun F H=>F 1 = .ptr h.length 0 0∧H[h.length]? = some (.live 2 [EC m])∧(∃ x,H=h ++ x)∧KD (JG m) m.crs=0) (fun F H=>F 2 = .int .i64 (FW m)∧∃ x,H=h ++ x) ?_ ?_ ?_
  ·refine DY (fun n F H => ∃ k,n+k=m.crs.length∧F 1 = .ptr h.length 0 0∧F 34 = .sl m.cm 3 (m.crs.map F5)∧F 35 = .int .i64 m.crs.length∧F 36 = .int .i64 (k:Nat)∧H[h.length]? = some (.live 2 [EC m])∧(∃ x,H=h ++ x)∧KD (JG m) m.crs=KD (JG m) (m.crs.drop k)) m.crs.length ⟨0,by simp,by simp -implicitDefEqProofs only [AA,↓reduceIte,Nat.reduceEqDiff,f1],by simp -implicitDefEqProofs only [AA,↓reduceIte,Nat.reduceEqDiff],by simp -implicitDefEqProofs only [AA,↓reduceIte,Nat.reduceEqDiff],by simp -implicitDefEqProofs only [AA,↓reduceIte]; rfl,hb,hx0,rfl⟩ ?_
   clear f1 hb hx0
   rintro n F H ⟨k,hk,f1,f34,f35,f36,hb,⟨x,hx⟩,hf⟩
   simp -implicitDefEqProofs only [BC,BA,BL,A8,AY,BB,AO,AQ,AL,BD,AX,AC,AA,AZ,BU,AB,DT,↓reduceIte,oGs,bNf,enP,f35,f36]
   refine DC (fun hc => ?_) (fun hc => ?_)
   ·have hk':k < m.crs.length:=by simpa using hc
    have hs:=TI (JG m) m.crs k hk'
    simp -implicitDefEqProofs only [BC,BV,BA,BR,A8,AY,BB,AO,AQ,AL,BD,AX,AC,EM,AA,AZ,CB,EZ,BQ,D6,CV,CG,BP,BX,AB,DI,lMc,lMn,lAn,↓reduceIte,Nat.reduceEqDiff,oGs,bNf,enP,AFO,Option.getD_none,f1,f34,f36,EF hk',FK AGV AAX J8 hk',APR,AM6 _ _ [.str ⟨#[]⟩,.sl .nil 0 [],.sl .nil 0 []] rfl,ldC (C9 H (.live 3 [F5 m.crs[k]])),ldM (CJ (x := .live 3 [F5 m.crs[k]]) hb)]
    refine (AII G hG m m.crs[k] (hm.crs _ (List.getElem_mem hk')) hfull _).use ?_
    simp -implicitDefEqProofs only [BC,BA,BL,A8,AY,BB,AO,AQ,AL,BD,AX,AC,AA,AZ,AU,BI,BG,A7,BU,AB,EQ,↓reduceIte,oGs,bNf,enP]
    refine DC (fun hv => ?_) (fun hv => ?_)
    ·simp -implicitDefEqProofs only [BC,BA,BK,A8,CX,ED,TU,FY,AY,BB,AO,AQ,AL,BD,AX,AC,AA,AZ,BG,A7,↓reduceIte,Nat.reduceEqDiff,oGs,bNf]
     have hv':JG m m.crs[k]≠0:=by simpa using hv
     have:KD (JG m) m.crs=JG m m.crs[k]:=by rw [hf,hs,if_neg hv']
     exact ⟨by rw [hme,this,if_pos hv'],x ++ _,by rw [hx,List.append_assoc]⟩
    ·have hv':JG m m.crs[k]=0:=by simpa using hv
     simp -implicitDefEqProofs only [BA,BR,A8,EP,FC,AY,BB,AO,AQ,AL,BD,AX,AC,AA,AZ,AU,BI,BG,BU,AB,DV,↓reduceIte,Nat.reduceEqDiff,oGs,bNf,enP,f36,wrap_succ (show k < 9223372036854775807 by omega)]
     exact ⟨n - 1,by omega,k+1,by omega,f1,f34,f35,rfl,CJ hb,⟨x ++ _,by rw [hx,List.append_assoc]⟩,by rw [hf,hs,if_pos hv']⟩
   ·have hk' : ¬ k < m.crs.length:=by simpa using hc
    simp -implicitDefEqProofs only [DW,ER,O1,FM,AA,↓reduceIte,Nat.reduceEqDiff]
    exact ⟨f1,hb,⟨x,hx⟩,by rw [hf,List.drop_eq_nil_of_le (by omega)]; rfl⟩
  ·rintro F H ⟨f1,hb,hx,hf⟩
   rw [hf,if_neg (fun hh=>hh rfl)] at hme
   simp -implicitDefEqProofs only [BC,BA,A8,FN,AY,AO,AQ,AL,BD,AX,AC,AA,AZ,CB,BQ,BM,CG,BP,AB,lMc,lMn,lAn,↓reduceIte,Nat.zero_add,oGs,bNf,enP,N9,f1,lm1 _ hb]
   refine (AK4 G m.crs m.cm H (by omega)).use ?_
   simp -implicitDefEqProofs only [BL,A8,BB,AC,AA,AZ,↓reduceIte]
   cases hd:Q8 (m.crs.map (·.name))
   ·simp -implicitDefEqProofs only [BC,BA,BR,BK,A8,CP,D5,AY,BB,AO,AQ,AL,BD,AX,AC,AA,AU,BI,A7,↓reduceIte,oGs,bNf]
    exact ⟨by rw [hme,hd]; rfl,hx⟩
   ·simp -implicitDefEqProofs only [BC,BA,BK,A8,CX,CP,DU,AY,BB,AO,AQ,AL,BD,AX,AC,AA,AU,BI,A7,↓reduceIte,oGs,bNf]
    exact ⟨by rw [hme,hd]; rfl,hx⟩
  ·rintro F H ⟨f2,hx⟩
   simp -implicitDefEqProofs only [CX,ED,CP,f2]
   exact ⟨trivial,hx⟩
 ·rintro F H ⟨f2,hx⟩
  simp -implicitDefEqProofs only [CX,ED,CP,f2]
  exact ⟨trivial,hx⟩
def eqL (a b:List Int):Bool:=decide (a=b)
theorem AF3 {a b:List Int} {k:Nat} (ha:k < a.length) (hb:k < b.length):eqL (a.drop k) (b.drop k)=(decide (a[k]=b[k]) && eqL (a.drop (k+1)) (b.drop (k+1))):=by
 rw [List.drop_eq_getElem_cons ha,List.drop_eq_getElem_cons hb]
 unfold eqL
 rw [decide_eq_decide.2 (Iff.of_eq (List.cons.injEq _ _ _ _)),Bool.decide_and]
theorem AH9 (G:Nat→AV) (a b:List Int) (s t:SM) (h:Hp) (hl:b.length≤1099511627776):PCall (En G) 188 [.sl s 1 (a.map encI),.sl t 1 (b.map encI)] h (.bool (eqL a b)):=by
 refine CE (H:=Hint.none) (enM G) Tryz.func188 rfl (by kernel_rfl) (by kernel_rfl) (nLb (by kernel_rfl)) ?_
 show awp _ _ _ _ _ (D9 _ [.tmp 4] _)
 simp -implicitDefEqProofs only [BC,BA,BL,A8,AY,BB,AO,AQ,AL,BD,AX,AC,AA,AZ,AU,BJ,BG,A7,BU,D8,AB,EQ,BF,BO,↓reduceIte,Nat.reduceEqDiff,oGs,bNf,enP,J6,lLm]
 refine DC (fun h1 => ?_) (fun h1 => ?_)
 ·simp -implicitDefEqProofs only [BC,BA,BK,A8,CX,CP,AY,BB,AO,AQ,AL,BD,AX,AC,AA,AU,BJ,A7,↓reduceIte,oGs,bNf]
  have:eqL a b=false:=by
   unfold eqL; rw [decide_eq_false_iff_not]; intro e; subst e; simp at h1
  exact ⟨by rw [this],trivial⟩
 have hab:a.length=b.length:=by simp at h1; omega
 simp -implicitDefEqProofs only [BC,BV,BA,BR,A8,AY,BB,AO,AQ,AL,BD,AX,AC,AA,AZ,AU,BI,BG,D8,AB,BF,↓reduceIte,Nat.reduceEqDiff,oGs,bNf,enP,J6,lLm]
 refine DY (fun n F H => ∃ k,n+k=a.length∧F 0 = .sl s 1 (a.map encI)∧F 1 = .sl t 1 (b.map encI)∧F 12 = .int .i64 a.length∧F 13 = .int .i64 (k:Nat)∧H=h∧eqL a b=eqL (a.drop k) (b.drop k)) a.length ⟨0,by simp,by simp -implicitDefEqProofs only [AA,BF,↓reduceIte,Nat.reduceEqDiff],by simp -implicitDefEqProofs only [AA,BF,BO,↓reduceIte,Nat.reduceEqDiff],by simp -implicitDefEqProofs only [AA,↓reduceIte,Nat.reduceEqDiff],by simp -implicitDefEqProofs only [AA,↓reduceIte]; rfl,rfl,rfl⟩ ?_
 rintro n F H ⟨k,hk,f0,f1,f12,f13,rfl,hi⟩
 simp -implicitDefEqProofs only [BC,BA,BL,A8,AY,BB,AO,AQ,AL,BD,AX,AC,AA,AZ,BU,AB,DT,↓reduceIte,oGs,bNf,enP,f12,f13]
 refine DC (fun hc => ?_) (fun hc => ?_)
 ·have hk':k < a.length:=by simpa using hc
  have hkb:k < b.length:=by omega
  rw [AF3 hk' hkb] at hi
  simp -implicitDefEqProofs only [BC,BV,BA,BR,A8,AY,BB,AO,AQ,AL,BD,AX,AC,AA,AZ,BG,A7,↓reduceIte,Nat.reduceEqDiff,oGs,bNf,f13]
  refine F7 (by kernel_rfl) ?_
  simp -implicitDefEqProofs only [GR,EU,D7,FZ,EW,G7,F9,LW,GG,BL,A8,AO,AA,AZ,BQ,BU,CV,AB,EQ,↓reduceIte,Nat.reduceEqDiff,Nat.reduceAdd,oGs,enP,MB,f0,f1,f13,EF hk',EF hkb,EI ag3 hk',EI ag3 hkb,encI0]
  refine DC (fun hd => ?_) (fun hd => ?_)
  ·simp -implicitDefEqProofs only [BC,BA,BK,A8,CX,ED,FY,CP,AY,BB,AO,AQ,AL,BD,AX,AC,AA,AU,BJ,A7,↓reduceIte,oGs,bNf]
   have:decide (a[k]=b[k])=false:=by simpa using hd
   exact ⟨by rw [hi,this]; rfl,trivial⟩
  ·simp -implicitDefEqProofs only [BA,BR,A8,EP,FC,AY,BB,AO,AQ,AL,BD,AX,AC,AA,AZ,AU,BI,BG,BU,AB,DV,↓reduceIte,Nat.reduceEqDiff,oGs,bNf,enP,f13,wrap_succ (show k < 9223372036854775807 by omega)]
   have:decide (a[k]=b[k])=true:=by simpa using hd
   exact ⟨n - 1,by omega,k+1,by omega,f0,f1,f12,rfl,trivial,by rw [hi,this]; rfl⟩
 ·have hk' : ¬ k < a.length:=by simpa using hc
  simp -implicitDefEqProofs only [BC,BA,BK,DW,A8,ER,FN,FM,CP,AY,BB,AO,AQ,AL,BD,AX,AC,AA,AU,BJ,A7,↓reduceIte,oGs,bNf]
  exact ⟨by rw [hi,List.drop_eq_nil_of_le (by omega),List.drop_eq_nil_of_le (by omega)]; rfl,trivial⟩
theorem AHE (G:Nat→AV) (a b:List Int) (s t:SM) (h:Hp) (hl:b.length≤1099511627776):PCall (En G) 148 [.sl s 1 (a.map encI),.sl t 1 (b.map encI)] h (.bool (eqL a b)):=by
 refine CE (H:=Hint.none) (enM G) Tryz.func148 rfl (by kernel_rfl) (by kernel_rfl) (nLb (by kernel_rfl)) ?_
 show awp _ _ _ _ _ (D9 _ [.tmp 4] _)
 simp -implicitDefEqProofs only [BC,BA,BL,A8,AY,BB,AO,AQ,AL,BD,AX,AC,AA,AZ,AU,BJ,BG,A7,BU,D8,AB,EQ,BF,BO,↓reduceIte,Nat.reduceEqDiff,oGs,bNf,enP,J6,lLm]
 refine DC (fun h1 => ?_) (fun h1 => ?_)
 ·simp -implicitDefEqProofs only [BC,BA,BK,A8,CX,CP,AY,BB,AO,AQ,AL,BD,AX,AC,AA,AU,BJ,A7,↓reduceIte,oGs,bNf]
  have:eqL a b=false:=by
   unfold eqL; rw [decide_eq_false_iff_not]; intro e; subst e; simp at h1
  exact ⟨by rw [this],trivial⟩
 have hab:a.length=b.length:=by simp at h1; omega
 simp -implicitDefEqProofs only [BC,BV,BA,BR,A8,AY,BB,AO,AQ,AL,BD,AX,AC,AU,BI,A7,oGs,bNf]
 refine DY (fun n F H => ∃ k,n+k=a.length∧F 0 = .sl s 1 (a.map encI)∧F 1 = .sl t 1 (b.map encI)∧F 5 = .int .i64 (k:Nat)∧H=h∧eqL a b=eqL (a.drop k) (b.drop k)) a.length ⟨0,by simp,by simp -implicitDefEqProofs only [AA,BF,↓reduceIte,Nat.reduceEqDiff],by simp -implicitDefEqProofs only [AA,BF,BO,↓reduceIte,Nat.reduceEqDiff],by simp -implicitDefEqProofs only [AA,↓reduceIte]; rfl,rfl,rfl⟩ ?_
 rintro n F H ⟨k,hk,f0,f1,f5,rfl,hi⟩
 simp -implicitDefEqProofs only [BC,BA,BL,A8,AY,BB,AO,AQ,AL,BD,AX,AC,AA,AZ,BG,BU,D8,AB,DT,↓reduceIte,Nat.reduceEqDiff,oGs,bNf,enP,J6,f0,f5,lLm]
 refine DC (fun hc => ?_) (fun hc => ?_)
 ·have hk':k < a.length:=by simpa using hc
  have hkb:k < b.length:=by omega
  rw [AF3 hk' hkb] at hi
  simp -implicitDefEqProofs only [BC,BV,BR,A8]
  refine F7 (by kernel_rfl) ?_
  simp -implicitDefEqProofs only [GR,EU,D7,FZ,EW,G7,F9,LW,GG,BL,A8,AO,AA,AZ,BQ,BU,CV,AB,EQ,↓reduceIte,Nat.reduceEqDiff,Nat.reduceAdd,oGs,enP,MB,f0,f1,f5,EF hk',EF hkb,EI ag3 hk',EI ag3 hkb,encI0]
  refine DC (fun hd => ?_) (fun hd => ?_)
  ·simp -implicitDefEqProofs only [BC,BA,BK,A8,CX,ED,FY,CP,AY,BB,AO,AQ,AL,BD,AX,AC,AA,AU,BJ,A7,↓reduceIte,oGs,bNf]
   have:decide (a[k]=b[k])=false:=by simpa using hd
   exact ⟨by rw [hi,this]; rfl,trivial⟩
  ·simp -implicitDefEqProofs only [BA,BR,A8,EP,FC,AY,BB,AO,AQ,AL,BD,AX,AC,AA,AZ,AU,BI,BG,A7,BU,AB,DV,↓reduceIte,Nat.reduceEqDiff,oGs,bNf,enP,f5,wrap_succ (show k < 9223372036854775807 by omega)]
   have:decide (a[k]=b[k])=true:=by simpa using hd
   exact ⟨n - 1,by omega,k+1,by omega,f0,f1,rfl,trivial,by rw [hi,this]; rfl⟩
 ·have hk' : ¬ k < a.length:=by simpa using hc
  simp -implicitDefEqProofs only [BC,BA,BK,DW,A8,ER,FN,FM,CP,AY,BB,AO,AQ,AL,BD,AX,AC,AA,AU,BJ,A7,↓reduceIte,oGs,bNf]
  exact ⟨by rw [hi,List.drop_eq_nil_of_le (by omega),List.drop_eq_nil_of_le (by omega)]; rfl,trivial⟩
def JM (n:Int):Bool:=decide (0≤n) && decide (n≤1099511627776)
def countB (n:Int) (may:Bool):Bool:=JM n && (may || n == 0)
theorem QW (G:Nat→AV) (n:Int) (may:Bool) (h:Hp):PCall (En G) 126 [.int .i64 n,.bool may] h (.bool (countB n may)):=by
 refine CE (H:=Hint.none) (enM G) Tryz.func126 rfl (by kernel_rfl) (by kernel_rfl) (nLb (by kernel_rfl)) ?_
 show awp _ _ _ _ _ (D9 _ [.tmp 4] _)
 simp -implicitDefEqProofs only [BC,BA,A8,AY,BB,BH,BN,CO,AO,AQ,AL,BD,AX,AC,AA,AZ,AU,BI,BJ,BG,A7,BU,AB,G6,BF,↓reduceIte,Nat.reduceEqDiff,oGs,bNf,enP]
 cases ha:decide (n≥0) <;> cases hb:decide (n≤1099511627776) <;> cases may
 all_goals
  simp -implicitDefEqProofs only [BK,A8,CP,AY,BB,BH,BN,CO,FV,EG,G5,FP,Q9,AO,AQ,AL,BD,AX,AC,AA,EJ,AZ,AU,BI,BJ,BG,A7,CQ,DR,DN,BU,AB,DX,IV,BF,BO,↓reduceIte,Nat.reduceEqDiff,oGs,bNf,enP,ha,hb]
  exact ⟨by unfold countB JM; rw [show decide (0≤n)=decide (n≥0) from rfl,ha,hb]; rfl,trivial⟩
theorem XX (G:Nat→AV) (b:Bin) (h:Hp):PCall (En G) 179 [.agg (F6 b)] h (.bool (b.kind == 0)):=by
 refine ACalls.pure0 rfl ?_
 refine CE (H:=Hint.none) (enM G) Tryz.func179 rfl (by kernel_rfl) (by kernel_rfl) (nLb (by kernel_rfl)) ?_
 show awp _ _ _ _ _ (D9 _ [.tmp 2] _)
 simp -implicitDefEqProofs only [BC,BA,BK,A8,CP,AY,BB,AO,AQ,AL,BD,AX,AC,AA,AZ,AU,BI,BJ,A7,FX,BQ,BU,BM,BX,AB,DX,BF,↓reduceIte,Nat.reduceEqDiff,Nat.zero_add,oGs,bNf,enP,TK,bxB,DJ ag3,AB9]
 exact ⟨trivial,_,rfl⟩
def ZJ (m:Mo) (p b:Int):Int:=match (KE m p)[b.toNat]? with
 | some x=>x.kind
 | none=>0
def QV (m:Mo):List Int→List Int→Bool
 | p :: ps,b :: bs=>(ZJ m p b == 0) && QV m ps bs
 | _,_=>true
def ZP (m:Mo) (c:Cr) (l:List Int):Bool:=QV m c.pts l && !(c.excl.any fun x=>eqL x.l l)
theorem AJZ {m:Mo} : ∀ {ps l:List Int},P6 (szs m ps) l=true→∀ (k:Nat) (hk:k < l.length) (hp:k < ps.length),0≤l[k]∧l[k] < ((KE m ps[k]).length:Int)
 | p :: ps,b :: bs,h,k,hk,hp=>by
   simp only [szs,lMc,P6,Bool.and_eq_true,decide_eq_true_eq] at h
   cases k with
   | zero=>exact h.1
   | succ k=>exact AJZ (m:=m) (ps:=ps) h.2 k (by simpa using hk) (by simpa using hp)
 | [],b :: bs,h,k,hk,hp=>by simp at hp
 | _,[],h,k,hk,hp=>by simp at hk
theorem AFN (m:Mo) (ps l:List Int) (k:Nat) (hp:k < ps.length) (hk:k < l.length):QV m (ps.drop k) (l.drop k)=((ZJ m ps[k] l[k] == 0) && QV m (ps.drop (k+1)) (l.drop (k+1))):=by
 rw [List.drop_eq_getElem_cons hp,List.drop_eq_getElem_cons hk]; rfl
theorem AHZ (m:Mo) (ps:List Int):QV m ps []=true:=by cases ps <;> rfl
theorem AVB {m:Mo} {p b:Int} (h0:0≤b) (h1:b < ((KE m p).length:Int)) (h:Hp) (s:SM):JP 4 h (.sl s 4 ((KE m p).map F6)) (.int .i64 b)=some (.fptr 4 ((KE m p).map F6) b.toNat 0) :=
 ABU h0 (by rw [lLm]; exact h1)
theorem APH {m:Mo} {p b:Int} (h0:0≤b) (h1:b < ((KE m p).length:Int)):((KE m p)[b.toNat]'(by omega)).kind=ZJ m p b:=by
 unfold ZJ; rw [List.getElem?_eq_getElem (by omega)]
theorem AR7 (G:Nat→AV) (l:List Int) (s:SM) (b:Nat) (r:Is) (h:Hp) (hb:h[b]? = some (.live 1 [[.sl s 1 (l.map encI)]])) (hl:l.length≤1099511627776) :
  PCall (En G) 221 [.sl r.m 1 (r.l.map encI),.ptr b 0 0] h (.bool (eqL r.l l)):=by
 refine CE (H:=Hint.none) (enM G) Tryz.func221 rfl (by kernel_rfl) (by kernel_rfl) (nLb (by kernel_rfl)) ?_
 show awp _ _ _ _ _ (D9 _ [.tmp 3] _)
 simp -implicitDefEqProofs only [BC,BA,A8,AY,BB,AO,AQ,AL,BD,AX,AC,AA,AZ,AU,CB,BJ,BG,A7,BQ,CG,BP,AB,BF,BO,lMc,lMn,lAn,↓reduceIte,Nat.reduceEqDiff,oGs,bNf,enP,IU NR hb]
 refine (AH9 G r.l l r.m s h hl).use ?_
 simp -implicitDefEqProofs only [BK,A8,CP,AY,BB,AO,AQ,AL,BD,AX,AC,AA,AZ,A7,↓reduceIte,oGs,bNf]
 exact ⟨trivial,trivial⟩
theorem Two.app {h H:Hp} {m:Mo} {c:Cr} {cb:Nat} (t:Two h H m c cb) (x:Hp):Two h (H ++ x) m c cb:=by
 obtain ⟨y,hy⟩:=t.hx
 exact ⟨FH t.gm,FH t.gc,⟨y ++ x,by rw [hy,List.append_assoc]⟩⟩
theorem UE (G:Nat→AV) (m:Mo) (c:Cr) (l:List Int) (s:SM) (h:Hp) (hh:Here m c.pts) (hi:P6 (szs m c.pts) l=true) (hl:c.pts.length≤1048576) (hx:c.excl.length≤1048576):PCall (En G) 169 [.agg (EC m),.agg (F5 c),.sl s 1 (l.map encI)] h (.bool (ZP m c l)):=by
 refine ACalls.pure0 rfl ?_
 have hlen:l.length=c.pts.length:=by have:=ZL hi; rw [VE] at this; omega
 refine CE (H:=Hint.none) (enM G) Tryz.func169 rfl (by kernel_rfl) (by kernel_rfl) (nLb (by kernel_rfl)) ?_
 show awp _ _ _ _ _ (D9 _ [.tmp 6] _)
 have t:=(Two.mk' h m c).app [.live 1 [[.sl s 1 (l.map encI)]]]
 have gl:=C9 (h ++ [ABlk.live 2 [EC m]] ++ [ABlk.live 3 [F5 c]]) (.live 1 [[.sl s 1 (l.map encI)]])
 simp -implicitDefEqProofs only [APF,BC,BA,A8,AY,BB,AO,AQ,AL,BD,AX,AC,AA,AZ,AU,BJ,A7,FX,BQ,BX,BF,BO,↓reduceIte,Nat.reduceEqDiff,oGs,bNf,enP,bxM,bxC]
 generalize h ++ [ABlk.live 2 [EC m]] ++ [ABlk.live 3 [F5 c]] ++ [ABlk.live 1 [[.sl s 1 (l.map encI)]]]=H at t gl ⊢
 generalize (h ++ [ABlk.live 2 [EC m]] ++ [ABlk.live 3 [F5 c]]).length=lb at gl ⊢
 generalize (h ++ [ABlk.live 2 [EC m]]).length=cb at t ⊢
 simp -implicitDefEqProofs only [BV,A8,AY,BB,AO,AQ,AL,BD,AX,AC,AA,AZ,AU,BI,BG,D8,AB,↓reduceIte,oGs,bNf,enP,J6,IU NR gl,lLm]
 have hkb:=AFN m c.pts l
 refine JJ 0 (fun F H'=>F 4 = .ptr cb 0 0∧F 5 = .ptr lb 0 0∧H'=H∧QV m c.pts l=true) (fun F H'=>F 6 = .bool false∧H'=H∧QV m c.pts l=false) ?_ ?_ ?_
 ·refine DY (fun n F H' => ∃ k,n+k=l.length∧F 3 = .ptr h.length 0 0∧F 4 = .ptr cb 0 0∧F 5 = .ptr lb 0 0∧F 9 = .sl s 1 (l.map encI)∧F 10 = .int .i64 l.length∧F 11 = .int .i64 (k:Nat)∧H'=H∧QV m c.pts l=QV m (c.pts.drop k) (l.drop k)) l.length ⟨0,by simp,by simp -implicitDefEqProofs only [AA,↓reduceIte,Nat.reduceEqDiff],by simp -implicitDefEqProofs only [AA,↓reduceIte,Nat.reduceEqDiff],by simp -implicitDefEqProofs only [AA,↓reduceIte,Nat.reduceEqDiff],by simp -implicitDefEqProofs only [AA,↓reduceIte,Nat.reduceEqDiff],by simp -implicitDefEqProofs only [AA,↓reduceIte,Nat.reduceEqDiff],by simp -implicitDefEqProofs only [AA,↓reduceIte]; rfl,rfl,rfl⟩ ?_
  rintro n F H' ⟨k,hk,f3,f4,f5,f9,f10,f11,rfl,hk0⟩
  simp -implicitDefEqProofs only [BC,BA,BL,A8,AY,BB,AO,AQ,AL,BD,AX,AC,AA,AZ,BU,AB,DT,↓reduceIte,oGs,bNf,enP,f10,f11]
  refine DC (fun hc => ?_) (fun hc => ?_)
  ·have hk':k < l.length:=by simpa using hc
   have hkc:k < c.pts.length:=by omega
   rw [hkb k hkc hk'] at hk0
   obtain ⟨h0,h1⟩:=AJZ hi k hk' hkc
   obtain ⟨s2,ls⟩:=hh.ld hkc H'
   simp -implicitDefEqProofs only [BC,BV,BA,BR,A8,AY,BB,AO,AQ,AL,BD,AX,AC,AA,AZ,BG,A7,BQ,CV,AB,↓reduceIte,Nat.reduceEqDiff,oGs,bNf,enP,MB,f9,f11,EF hk',EI ag3 hk',encI0]
   refine F7 (by kernel_rfl) ?_
   simp -implicitDefEqProofs only [GR,EU,D7,EW,G7,F9,AKL,FB,GG,IJ,IB,AO,AA,AZ,CB,BQ,GV,BM,CV,AB,lMc,lMn,lAn,↓reduceIte,Nat.reduceEqDiff,Nat.reduceAdd,Nat.add_zero,Nat.zero_add,oGs,enP,UZ,LP,AH0,LM,MB,SB,f3,f4,f11,t.lm,t.l1,EF hkc,EI ag3 hkc,encI0,hh.ix hkc,ls,AVB h0 h1,FK UI OW LD (show l[k].toNat < (KE m c.pts[k]).length by omega)]
   refine ⟨_,XX G _ _,?_⟩
   try simp -implicitDefEqProofs only [D7,FZ,BL,A8,AA,AZ,AB,EX,↓reduceIte]
   rw [APH h0 h1]
   cases hkd:(ZJ m c.pts[k] l[k] == 0)
   ·simp -implicitDefEqProofs only [BC,BA,BK,A8,CX,ED,TU,FY,DU,AY,BB,AO,AQ,AL,BD,AX,AC,AA,AU,BJ,A7,↓reduceIte,oGs,bNf]
    exact ⟨trivial,trivial,by rw [hk0,hkd]; rfl⟩
   ·simp -implicitDefEqProofs only [BA,BR,A8,EP,FC,D5,AY,BB,AO,AQ,AL,BD,AX,AC,AA,AZ,AU,BI,BG,BU,AB,DV,↓reduceIte,Nat.reduceEqDiff,oGs,bNt,bNf,enP,f11,wrap_succ (show k < 9223372036854775807 by omega)]
    exact ⟨n - 1,by omega,k+1,by omega,f3,f4,f5,f9,f10,rfl,trivial,by rw [hk0,hkd]; rfl⟩
  ·have hk' : ¬ k < l.length:=by simpa using hc
   simp -implicitDefEqProofs only [DW,ER,O1,FM,AA,↓reduceIte,Nat.reduceEqDiff]
   exact ⟨f4,f5,trivial,by rw [hk0,List.drop_eq_nil_of_le (show l.length≤k by omega),AHZ]⟩
 ·rintro F H' ⟨f4,f5,rfl,hk⟩
  simp -implicitDefEqProofs only [BC,BA,A8,FN,AY,AO,AQ,AL,BD,AX,AC,AA,AZ,CB,BQ,G8,BM,CG,BP,AB,lMc,lMn,lAn,↓reduceIte,Nat.reduceEqDiff,Nat.zero_add,oGs,bNf,enP,ADE,f4,f5,t.l2]
  refine (SK G c.excl c.xm 221 _ (fun x=>eqL x.l l) _ (by omega) fun r=>AR7 G l s _ r _ gl (by omega)).use ?_
  simp -implicitDefEqProofs only [BK,A8,CP,AY,BB,AO,AQ,AL,BD,AX,AC,AA,AZ,A7,GV,AB,EX,↓reduceIte,oGs,bNf]
  exact ⟨by unfold ZP; rw [hk]; rfl,t.hx⟩
 ·rintro F H' ⟨f6,rfl,hk⟩
  simp -implicitDefEqProofs only [CX,ED,CP,f6]
  exact ⟨by unfold ZP; rw [hk]; rfl,t.hx⟩
theorem ASA (xs:List Nat):xs.map JE=(xs.map fun n:Nat=>(n:Int)).map encI:=by
 rw [List.map_map]; rfl
def tupF:List Nat→Nat→List Nat × Nat
 | [],k=>([],k)
 | n :: ns,k=>(((tupF ns k).2 % n) :: (tupF ns k).1,(tupF ns k).2 / n)
def OV (ns:List Nat) (k:Nat):List Int:=(tupF ns k).1.map fun n:Nat=>(n:Int)
theorem VB : ∀ (ns:List Nat) (k:Nat),(tupF ns k).1.length=ns.length
 | [],_=>rfl
 | n :: ns,k=>by simp [tupF,VB ns k]
theorem YW : ∀ (ns:List Nat) (k:Nat),(∀ n∈ns,1≤n)→P6 ns (OV ns k)=true
 | [],_,_=>rfl
 | n :: ns,k,h=>by
   have h1:=h n (by simp)
   have ih:=YW ns k (fun x hx=>h x (by simp [hx]))
   have h2:(tupF ns k).2 % n < n:=Nat.mod_lt _ (by omega)
   show P6 (n :: ns) (((tupF ns k).2 % n:Nat) :: OV ns k)=true
   unfold P6
   rw [ih]
   simp; omega
theorem tup_step {ns:List Nat} {K j:Nat} (hj:j < ns.length):tupF (ns.drop j) K=(((tupF (ns.drop (j+1)) K).2 % ns[j]) :: (tupF (ns.drop (j+1)) K).1,(tupF (ns.drop (j+1)) K).2 / ns[j]):=by
 rw [List.drop_eq_getElem_cons hj]; rfl
theorem AYM (h:Hp) (n:Nat) (hn:n≤1048576):H8 Tryz.prog true h 57 (.int .i64 (n:Int)) (.int .i64 (n:Int))=some (.own h.length 0 n,h ++ [.live 1 ((List.replicate n 0).map JE)]):=by
 have hz:LG Tryz.prog 3=some [.int .i64 0]:=by kernel_rfl
 have hr:room n 8:=IR (by omega) (by omega)
 unfold H8
 simp only [UN,sz3,WV,hz,Int.toNat_natCast]
 rw [if_pos ⟨by omega,Int.le_refl _,hr,rfl⟩]
 simp [JE]
structure Cvr where
 pm:SM
 pts:List Is
 cm:SM
 crs:List Is
 sam:Int
 ill:Int
def ES (v:Cvr):List AV := [.sl v.pm 1 (v.pts.map encL),.sl v.cm 1 (v.crs.map encL),.int .i64 v.sam,.int .i64 v.ill]
theorem AF5 (v:Cvr):(ES v)[0]? = some (.sl v.pm 1 (v.pts.map encL)):=rfl
theorem AB3 (v:Cvr):(ES v)[1]? = some (.sl v.cm 1 (v.crs.map encL)):=rfl
theorem AOR (v:Cvr):(ES v)[2]? = some (.int .i64 v.sam):=rfl
theorem AJ7 (v:Cvr):(ES v)[3]? = some (.int .i64 v.ill):=rfl
theorem AF4 (v:Cvr):(ES v).length=4:=rfl
theorem bxV (h:Hp) (v:Cvr):NU h (.agg (ES v))=some (.ptr h.length 0 0,h ++ [.live 4 [ES v]]):=rfl
theorem ldV {h:Hp} {b:Nat} {v:Cvr} (hb:h[b]? = some (.live 4 [ES v])):DL Tryz.prog h 28 (.ptr b 0 0)=some (.agg (ES v)):=by
 rw [IK AX0 AKS hb rfl (by rw [AF4]; exact Nat.le_refl 4)]; rfl
def TT (p:Nat→Bool):Nat→List Int→Bool
 | _,[]=>true
 | k,n :: ns=>countB n (p k) && TT p (k+1) ns
theorem ABN (p:Nat→Bool) (l:List Int) (k:Nat) (hk:k < l.length):TT p k (l.drop k)=(countB l[k] (p k) && TT p (k+1) (l.drop (k+1))):=by
 rw [List.drop_eq_getElem_cons hk]; rfl
def J7 {α:Type} (ok:α→Is→Bool):List α→List Is→Bool
 | [],[]=>true
 | a :: ws,x :: xs=>ok a x && J7 ok ws xs
 | _,_=>false
theorem O6 {α:Type} {ok:α→Is→Bool} : ∀ {ws:List α} {xs:List Is},J7 ok ws xs=true→ws.length=xs.length
 | [],[],_=>rfl
 | a :: ws,x :: xs,h=>by
   simp only [J7,Bool.and_eq_true] at h
   simp [O6 h.2]
 | [],_ :: _,h=>by cases h
 | _ :: _,[],h=>by cases h
theorem AB0 {α:Type} (ok:α→Is→Bool) (ws:List α) (xs:List Is) (k:Nat) (ha:k < ws.length) (hx:k < xs.length):J7 ok (ws.drop k) (xs.drop k)=(ok ws[k] xs[k] && J7 ok (ws.drop (k+1)) (xs.drop (k+1))):=by
 rw [List.drop_eq_getElem_cons ha,List.drop_eq_getElem_cons hx]; rfl
theorem AFZ {α:Type} (ok:α→Is→Bool) (ws:List α) (xs:List Is) (k:Nat) (ha:ws.length≤k) (hx:xs.length≤k):J7 ok (ws.drop k) (xs.drop k)=true:=by
 rw [List.drop_eq_nil_of_le ha,List.drop_eq_nil_of_le hx]; rfl
def kindOf (p:Pt) (k:Nat):Int:=match p.bins[k]? with
 | some b=>b.kind
 | none=>0
def okP (p:Pt) (x:Is):Bool:=(x.l.length == p.bins.length) && TT (fun k=>kindOf p k == 0) 0 x.l
def okC (m:Mo) (c:Cr) (x:Is):Bool:=(x.l.length == I4 (szs m c.pts)) && TT (fun k=>ZP m c (OV (szs m c.pts) k)) 0 x.l
structure CvOk (v:Cvr):Prop where
 pts:v.pts.length≤1048576
 crs:v.crs.length≤1048576
 eachP : ∀ x∈v.pts,x.l.length≤1048576
 eachC : ∀ x∈v.crs,x.l.length≤1048576
theorem ALS (G:Nat→AV) (m:Mo) (l:List Is) (s:SM) (h:Hp) (hm:MoOk m) (hl : ∀ x∈l,x.l.length≤1048576):PCall (En G) 124 [.agg (EC m),.sl s 1 (l.map encL)] h (.bool (J7 okP m.pts l)):=by
 refine ACalls.pure0 rfl ?_
 have hm1:=hm.np
 refine CE (H:=Hint.none) (enM G) Tryz.func124 rfl (by kernel_rfl) (by kernel_rfl) (nLb (by kernel_rfl)) ?_
 show awp _ _ _ _ _ (D9 _ [.tmp 4] _)
 simp -implicitDefEqProofs only [BC,BA,BL,A8,AY,BB,AO,AQ,AL,BD,AX,AC,AA,AZ,AU,BJ,BG,A7,FX,BQ,BU,BM,D8,BX,AB,EQ,BF,BO,↓reduceIte,Nat.reduceEqDiff,Nat.add_zero,oGs,bNf,enP,UY,LP,YB,bxM,DJ U7,O8,lLm]
 refine DC (fun h1 => ?_) (fun h1 => ?_)
 ·simp -implicitDefEqProofs only [BC,BA,BK,A8,CX,CP,AY,BB,AO,AQ,AL,BD,AX,AC,AA,AU,BJ,A7,↓reduceIte,oGs,bNf]
  have:J7 okP m.pts l=false:=by
   rw [← Bool.not_eq_true]; intro e
   have:=O6 e
   simp at h1; omega
  exact ⟨by rw [this],_,rfl⟩
 have hlen:l.length=m.pts.length:=by simp at h1; omega
 simp -implicitDefEqProofs only [BC,BV,BA,BR,A8,AY,BB,AO,AQ,AL,BD,AX,AC,AA,AZ,AU,BI,BG,BQ,BM,D8,AB,↓reduceIte,Nat.reduceEqDiff,Nat.add_zero,oGs,bNf,enP,UY,LP,DJ U7,O8,lLm]
 refine DY (fun n F H => ∃ i,n+i=m.pts.length∧F 1 = .sl s 1 (l.map encL)∧F 16 = .sl m.pm 6 (m.pts.map FO)∧F 17 = .int .i64 m.pts.length∧F 18 = .int .i64 (i:Nat)∧(∃ x,H=h ++ x)∧J7 okP m.pts l=J7 okP (m.pts.drop i) (l.drop i)) m.pts.length ⟨0,by simp,by simp -implicitDefEqProofs only [AA,BF,BO,↓reduceIte,Nat.reduceEqDiff],by simp -implicitDefEqProofs only [AA,↓reduceIte,Nat.reduceEqDiff],by simp -implicitDefEqProofs only [AA,↓reduceIte,Nat.reduceEqDiff],by simp -implicitDefEqProofs only [AA,↓reduceIte]; rfl,⟨_,rfl⟩,rfl⟩ ?_
 rintro n F H ⟨i,hi,f1,f16,f17,f18,hx,hf⟩
 simp -implicitDefEqProofs only [BC,BA,BL,A8,AY,BB,AO,AQ,AL,BD,AX,AC,AA,AZ,BU,AB,DT,↓reduceIte,oGs,bNf,enP,f17,f18]
 refine DC (fun hc => ?_) (fun hc => ?_)
 ·have hi':i < m.pts.length:=by simpa using hc
  have hil:i < l.length:=by omega
  rw [AB0 okP m.pts l i hi' hil] at hf
  have hx1 : ∃ x,H ++ [ABlk.live 6 [FO m.pts[i]]]=h ++ x:=by
   obtain ⟨x,rfl⟩:=hx
   exact ⟨_,List.append_assoc _ _ _⟩
  have hxl:=hl _ (List.getElem_mem hil)
  simp -implicitDefEqProofs only [BC,BV,BA,BR,A8,AY,BB,AO,AQ,AL,BD,AX,AC,EM,AA,AZ,BG,A7,EZ,BQ,D6,CV,BX,AB,DI,↓reduceIte,Nat.reduceEqDiff,oGs,bNf,enP,UZ,Option.getD_none,f16,f18,EF hi',FK AA9 X8 II hi',APS,AM7 _ _ [.str ⟨#[]⟩,.int .i64 0,.int .i64 0,.str ⟨#[]⟩,.sl .nil 0 [],.sl .nil 0 []] rfl]
  refine F7 (by kernel_rfl) ?_
  simp -implicitDefEqProofs only [GR,EU,D7,FZ,EW,G7,F9,LW,FB,GG,LV,BL,A8,AO,AA,AZ,BQ,BU,BM,CV,D8,AB,EQ,↓reduceIte,Nat.reduceEqDiff,Nat.reduceAdd,Nat.zero_add,oGs,enP,TV,ZI,LM,J6,f1,EF hil,EI NR hil,XU,DJ V5,PP,lLm]
  refine DC (fun h2 => ?_) (fun h2 => ?_)
  ·simp -implicitDefEqProofs only [BC,BA,BK,A8,CX,ED,FY,CP,AY,BB,AO,AQ,AL,BD,AX,AC,AA,AU,BJ,A7,↓reduceIte,oGs,bNf]
   have:okP m.pts[i] l[i]=false:=by
    have:(l[i].l.length == m.pts[i].bins.length)=false:=by
     rw [beq_eq_false_iff_ne]; intro e; simp [e] at h2
    unfold okP; rw [this]; rfl
   exact ⟨by rw [hf,this]; rfl,hx1⟩
  have hbl:l[i].l.length=m.pts[i].bins.length:=by simp at h2; omega
  have hok:okP m.pts[i] l[i]=TT (fun k=>kindOf m.pts[i] k == 0) 0 l[i].l:=by
   unfold okP; rw [beq_iff_eq.2 hbl]; rfl
  simp -implicitDefEqProofs only [BC,BV,BA,BR,A8,AY,BB,AO,AQ,AL,BD,AX,AC,AA,AZ,AU,BI,BG,BQ,CV,D8,AB,↓reduceIte,Nat.reduceEqDiff,oGs,bNf,enP,TV,J6,f1,EF hil,EI NR hil,XU,lLm]
  refine JJ 2 (fun F' H'=>F' 1 = .sl s 1 (l.map encL)∧F' 16 = .sl m.pm 6 (m.pts.map FO)∧F' 17 = .int .i64 m.pts.length∧F' 18 = .int .i64 (i:Nat)∧H'=H ++ [.live 6 [FO m.pts[i]]]∧okP m.pts[i] l[i]=true) (fun F' H'=>F' 4 = .bool false∧H'=H ++ [.live 6 [FO m.pts[i]]]∧okP m.pts[i] l[i]=false) ?_ ?_ ?_
  ·refine DY (fun n F' H' => ∃ k,n+k=l[i].l.length∧F' 1 = .sl s 1 (l.map encL)∧F' 16 = .sl m.pm 6 (m.pts.map FO)∧F' 17 = .int .i64 m.pts.length∧F' 18 = .int .i64 (i:Nat)∧F' 6 = .ptr H.length 0 0∧F' 35 = .sl l[i].m 1 (l[i].l.map encI)∧F' 36 = .int .i64 l[i].l.length∧F' 37 = .int .i64 (k:Nat)∧H'=H ++ [.live 6 [FO m.pts[i]]]∧okP m.pts[i] l[i]=TT (fun k=>kindOf m.pts[i] k == 0) k (l[i].l.drop k)) l[i].l.length ⟨0,by simp,by simp -implicitDefEqProofs only [AA,↓reduceIte,Nat.reduceEqDiff,f1],by simp -implicitDefEqProofs only [AA,↓reduceIte,Nat.reduceEqDiff,f16],by simp -implicitDefEqProofs only [AA,↓reduceIte,Nat.reduceEqDiff,f17],by simp -implicitDefEqProofs only [AA,↓reduceIte,Nat.reduceEqDiff,f18],by simp -implicitDefEqProofs only [AA,↓reduceIte,Nat.reduceEqDiff],by simp -implicitDefEqProofs only [AA,↓reduceIte,Nat.reduceEqDiff],by simp -implicitDefEqProofs only [AA,↓reduceIte,Nat.reduceEqDiff],by simp -implicitDefEqProofs only [AA,↓reduceIte]; rfl,rfl,hok⟩ ?_
   clear f1 f16 f17 f18
   rintro n' F H' ⟨k,hk,f1,f16,f17,f18,f6,f35,f36,f37,rfl,hr⟩
   simp -implicitDefEqProofs only [BC,BA,BL,A8,AY,BB,AO,AQ,AL,BD,AX,AC,AA,AZ,BU,AB,DT,↓reduceIte,oGs,bNf,enP,f36,f37]
   refine DC (fun hc => ?_) (fun hc => ?_)
   ·have hk':k < l[i].l.length:=by simpa using hc
    have hkb:k < m.pts[i].bins.length:=by omega
    have hkd:kindOf m.pts[i] k=(m.pts[i].bins[k]).kind:=by unfold kindOf; rw [List.getElem?_eq_getElem hkb]
    rw [ABN _ _ _ hk',hkd] at hr
    simp -implicitDefEqProofs only [BC,BV,BA,BR,A8,AY,BB,AO,AQ,AL,BD,AX,AC,AA,AZ,CB,BG,A7,BQ,BM,CV,CG,BP,AB,lMc,lMn,lAn,↓reduceIte,Nat.reduceEqDiff,Nat.zero_add,oGs,bNf,enP,AH0,LM,MB,f6,f35,f37,EF hk',EI ag3 hk',encI0,DJ V5,PP,EF hkb,FK UI OW LD hkb]
    refine (XX G _ _).use ?_
    simp -implicitDefEqProofs only [AY,AO,AQ,AL,BD,AX,AC,AA,AZ,CB,CG,BP,lMc,lMn,lAn,↓reduceIte,Nat.reduceEqDiff,oGs,bNf]
    refine (QW G _ _ _).use ?_
    simp -implicitDefEqProofs only [BL,A8,AY,BB,AO,AQ,AL,BD,AX,AC,AA,AZ,GV,AB,EX,↓reduceIte,oGs,bNf]
    cases hcb:countB l[i].l[k] (m.pts[i].bins[k].kind == 0)
    ·simp -implicitDefEqProofs only [BC,BA,BK,A8,CX,ED,TU,FY,DU,AY,BB,AO,AQ,AL,BD,AX,AC,AA,AU,BJ,A7,↓reduceIte,oGs,bNf]
     exact ⟨trivial,trivial,by rw [hr,hcb]; rfl⟩
    ·simp -implicitDefEqProofs only [BA,BR,A8,EP,FC,D5,AY,BB,AO,AQ,AL,BD,AX,AC,AA,AZ,AU,BI,BG,BU,AB,DV,↓reduceIte,Nat.reduceEqDiff,oGs,bNt,bNf,enP,f37,wrap_succ (show k < 9223372036854775807 by omega)]
     exact ⟨n' - 1,by omega,k+1,by omega,f1,f16,f17,f18,f6,f35,f36,rfl,trivial,by rw [hr,hcb]; rfl⟩
   ·have hk' : ¬ k < l[i].l.length:=by simpa using hc
    simp -implicitDefEqProofs only [DW,ER,O1,FM,AA,↓reduceIte,Nat.reduceEqDiff]
    exact ⟨f1,f16,f17,f18,trivial,by rw [hr,List.drop_eq_nil_of_le (by omega)]; rfl⟩
  ·rintro F' H' ⟨g1,g16,g17,g18,rfl,hr⟩
   simp -implicitDefEqProofs only [BA,A8,EP,FN,FC,AY,BB,AO,AQ,AL,BD,AX,AC,AA,AZ,AU,BI,BG,BU,AB,DV,↓reduceIte,Nat.reduceEqDiff,oGs,bNf,enP,g18,wrap_succ (show i < 9223372036854775807 by omega)]
   exact ⟨n - 1,by omega,i+1,by omega,g1,g16,g17,rfl,hx1,by rw [hf,hr]; rfl⟩
  ·rintro F' H' ⟨g4,rfl,hr⟩
   simp -implicitDefEqProofs only [CX,ED,FY,CP,g4]
   exact ⟨by rw [hf,hr]; rfl,hx1⟩
 ·have hi' : ¬ i < m.pts.length:=by simpa using hc
  simp -implicitDefEqProofs only [BC,BA,BK,DW,A8,ER,FN,FM,CP,AY,BB,AO,AQ,AL,BD,AX,AC,AA,AU,BJ,A7,↓reduceIte,oGs,bNf]
  exact ⟨by rw [hf,AFZ okP _ _ i (by omega) (by omega)],hx⟩
def PX (G:Nat→AV):Prop := ∀ (ns:List Nat) (s:SM) (K:Nat) (h:Hp),0 < ns.length→ns.length≤4→(∀ n∈ns,1≤n∧n≤64)→K≤1048576 →
 PCall (En G) 168 [.sl s 1 (ns.map JE),.int .i64 (K:Int)] h (.sl .any 1 ((OV ns K).map encI))
structure CrGood (m:Mo) (c:Cr):Prop where
 here:Here m c.pts
 two:2≤c.pts.length
 four:c.pts.length≤4
 prod:I4 (szs m c.pts)≤256
 num:c.excl.length≤256
 excl : ∀ x∈c.excl,P6 (szs m c.pts) x.l=true
theorem AL1 {m:Mo} {c:Cr} (h:JG m c=0):CrGood m c:=by
 unfold JG at h
 split at h
 ·cases h
 ·split at h
  ·cases h
  ·split at h
   ·cases h
   ·split at h
    ·cases h
    ·split at h
     ·cases h
     ·rename_i h1 h2 h3 h4 h5
      have h3':YD m.pts.length none c.pts=true:=by simpa using h3
      refine ⟨WI h3',by omega,by omega,by omega,by omega,fun x hx => ?_⟩
      rw [Bool.not_eq_true,List.any_eq_false] at h5
      have:=h5 x hx
      simpa using this
structure Good (m:Mo):Prop where
 num:m.pts.length+m.crs.length≤16
 full:Full m
 crs : ∀ c∈m.crs,CrGood m c
theorem OI {m:Mo} (h:FW m=0):Good m:=by
 unfold FW at h
 split at h
 ·cases h
 ·split at h
  ·rename_i h2; exact absurd h h2
  ·split at h
   ·cases h
   ·split at h
    ·rename_i h4; exact absurd h h4
    ·rename_i h1 h2 h3 h4
     refine ⟨by omega,full_of (by simpa using h2),fun c hc=>AL1 (VR _ (by simpa using h4) c hc)⟩
theorem ALT (G:Nat→AV) (hT:PX G) (m:Mo) (l:List Is) (s:SM) (h:Hp) (hm:MoOk m) (hg:Good m) (hl : ∀ x∈l,x.l.length≤1048576):PCall (En G) 125 [.agg (EC m),.sl s 1 (l.map encL)] h (.bool (J7 (okC m) m.crs l)):=by
 refine ACalls.pure0 rfl ?_
 have hm1:=hm.nc
 refine CE (H:=Hint.none) (enM G) Tryz.func125 rfl (by kernel_rfl) (by kernel_rfl) (nLb (by kernel_rfl)) ?_
 show awp _ _ _ _ _ (D9 _ [.tmp 4] _)
 simp -implicitDefEqProofs only [BC,BA,BL,A8,AY,BB,AO,AQ,AL,BD,AX,AC,AA,AZ,AU,BJ,BG,A7,FX,BQ,BU,BM,D8,BX,AB,EQ,BF,BO,↓reduceIte,Nat.reduceEqDiff,Nat.zero_add,oGs,bNf,enP,AA1,N9,YB,bxM,DJ AD3,VX,lLm]
 refine DC (fun h1 => ?_) (fun h1 => ?_)
 ·simp -implicitDefEqProofs only [BC,BA,BK,A8,CX,CP,AY,BB,AO,AQ,AL,BD,AX,AC,AA,AU,BJ,A7,↓reduceIte,oGs,bNf]
  have:J7 (okC m) m.crs l=false:=by
   rw [← Bool.not_eq_true]; intro e
   have:=O6 e
   simp at h1; omega
  exact ⟨by rw [this],_,rfl⟩
 have hlen:l.length=m.crs.length:=by simp at h1; omega
 simp -implicitDefEqProofs only [BC,BV,BA,BR,A8,AY,BB,AO,AQ,AL,BD,AX,AC,AA,AZ,AU,BI,BG,BQ,BM,D8,AB,↓reduceIte,Nat.reduceEqDiff,Nat.zero_add,oGs,bNf,enP,AA1,N9,DJ AD3,VX,lLm]
 refine DY (fun n F H => ∃ i,n+i=m.crs.length∧F 1 = .sl s 1 (l.map encL)∧F 2 = .ptr h.length 0 0∧F 17 = .sl m.cm 3 (m.crs.map F5)∧F 18 = .int .i64 m.crs.length∧F 19 = .int .i64 (i:Nat)∧H[h.length]? = some (.live 2 [EC m])∧(∃ x,H=h ++ x)∧J7 (okC m) m.crs l=J7 (okC m) (m.crs.drop i) (l.drop i)) m.crs.length ⟨0,by simp,by simp -implicitDefEqProofs only [AA,BF,BO,↓reduceIte,Nat.reduceEqDiff],by simp -implicitDefEqProofs only [AA,↓reduceIte,Nat.reduceEqDiff],by simp -implicitDefEqProofs only [AA,↓reduceIte,Nat.reduceEqDiff],by simp -implicitDefEqProofs only [AA,↓reduceIte,Nat.reduceEqDiff],by simp -implicitDefEqProofs only [AA,↓reduceIte]; rfl,C9 _ _,⟨_,rfl⟩,rfl⟩ ?_
 rintro n F H ⟨i,hi,f1,f2,f17,f18,f19,gm,hx,hf⟩
 simp -implicitDefEqProofs only [BC,BA,BL,A8,AY,BB,AO,AQ,AL,BD,AX,AC,AA,AZ,BU,AB,DT,↓reduceIte,oGs,bNf,enP,f18,f19]
 refine DC (fun hc => ?_) (fun hc => ?_)
 ·have hi':i < m.crs.length:=by simpa using hc
  have hil:i < l.length:=by omega
  rw [AB0 (okC m) m.crs l i hi' hil] at hf
  have hcg:=hg.crs _ (List.getElem_mem hi')
  have hfs:=hg.full.szs hcg.here
  have hsl:=VE m m.crs[i].pts
  have hx1 : ∃ x,H ++ [ABlk.live 3 [F5 m.crs[i]]]=h ++ x:=by
   obtain ⟨x,rfl⟩:=hx
   exact ⟨_,List.append_assoc _ _ _⟩
  have hxl:=hl _ (List.getElem_mem hil)
  have gm1:(H ++ [ABlk.live 3 [F5 m.crs[i]]])[h.length]? = some (.live 2 [EC m]):=CJ gm
  have gc1:=C9 H (.live 3 [F5 m.crs[i]])
  have htwo:=hcg.two
  have hfour:=hcg.four
  have hpr:=hcg.prod
  simp -implicitDefEqProofs only [BC,BV,BA,BR,A8,AY,BB,AO,AQ,AL,BD,AX,AC,EM,AA,AZ,CB,BG,A7,EZ,BQ,D6,CV,CG,BP,BX,AB,DI,lMc,lMn,lAn,↓reduceIte,Nat.reduceEqDiff,oGs,bNf,enP,AFO,Option.getD_none,f2,f17,f19,EF hi',FK AGV AAX J8 hi',APR,AM6 _ _ [.str ⟨#[]⟩,.sl .nil 0 [],.sl .nil 0 []] rfl,ldM gm1,ldC gc1]
  refine (OX G m _ _ hcg.here (by omega)).use ?_
  simp -implicitDefEqProofs only [BC,A8,AY,BB,AO,AQ,AL,BD,AX,AC,AA,AZ,A7,↓reduceIte,oGs,bNf]
  refine F7 (by kernel_rfl) ?_
  simp -implicitDefEqProofs only [GR,EU,D7,EW,G7,F9,LW,GG,LV,IJ,IB,AO,AA,AZ,CB,BQ,BU,CV,D8,AB,lMc,lMn,lAn,↓reduceIte,Nat.reduceEqDiff,Nat.reduceAdd,oGs,enP,TV,J6,f1,EF hil,EI NR hil,XU,lLm]
  refine ⟨_,OH G _ _ _ (fun n hn=>(hfs n hn).2) (by omega),?_⟩
  try simp -implicitDefEqProofs only [D7,FZ,BL,A8,AA,AZ,AB,EQ,↓reduceIte]
  refine DC (fun h2 => ?_) (fun h2 => ?_)
  ·simp -implicitDefEqProofs only [BC,BA,BK,A8,CX,ED,FY,CP,AY,BB,AO,AQ,AL,BD,AX,AC,AA,AU,BJ,A7,↓reduceIte,oGs,bNf]
   have:okC m m.crs[i] l[i]=false:=by
    have:(l[i].l.length == I4 (szs m m.crs[i].pts))=false:=by
     rw [beq_eq_false_iff_ne]; intro e; simp [e] at h2
    unfold okC; rw [this]; rfl
   exact ⟨by rw [hf,this]; rfl,hx1⟩
  have hbl:l[i].l.length=I4 (szs m m.crs[i].pts):=by simp at h2; omega
  have hok:okC m m.crs[i] l[i]=TT (fun k=>ZP m m.crs[i] (OV (szs m m.crs[i].pts) k)) 0 l[i].l:=by
   unfold okC; rw [beq_iff_eq.2 hbl]; rfl
  simp -implicitDefEqProofs only [BC,BV,BA,BR,A8,AY,BB,AO,AQ,AL,BD,AX,AC,AA,AZ,AU,BI,BG,BQ,CV,D8,AB,↓reduceIte,Nat.reduceEqDiff,oGs,bNf,enP,TV,J6,f1,EF hil,EI NR hil,XU,lLm]
  refine JJ 2 (fun F' H'=>F' 1 = .sl s 1 (l.map encL)∧F' 2 = .ptr h.length 0 0∧F' 17 = .sl m.cm 3 (m.crs.map F5)∧F' 18 = .int .i64 m.crs.length∧F' 19 = .int .i64 (i:Nat)∧H'=H ++ [.live 3 [F5 m.crs[i]]]∧okC m m.crs[i] l[i]=true) (fun F' H'=>F' 4 = .bool false∧H'=H ++ [.live 3 [F5 m.crs[i]]]∧okC m m.crs[i] l[i]=false) ?_ ?_ ?_
  ·refine DY (fun n F' H' => ∃ k,n+k=l[i].l.length∧F' 1 = .sl s 1 (l.map encL)∧F' 2 = .ptr h.length 0 0∧F' 17 = .sl m.cm 3 (m.crs.map F5)∧F' 18 = .int .i64 m.crs.length∧F' 19 = .int .i64 (i:Nat)∧F' 6 = .ptr H.length 0 0∧F' 7 = .sl (nm (szs m m.crs[i].pts)) 1 ((szs m m.crs[i].pts).map JE)∧F' 38 = .sl l[i].m 1 (l[i].l.map encI)∧F' 39 = .int .i64 l[i].l.length∧F' 40 = .int .i64 (k:Nat)∧H'=H ++ [.live 3 [F5 m.crs[i]]]∧okC m m.crs[i] l[i]=TT (fun k=>ZP m m.crs[i] (OV (szs m m.crs[i].pts) k)) k (l[i].l.drop k)) l[i].l.length ⟨0,by simp,by simp -implicitDefEqProofs only [AA,↓reduceIte,Nat.reduceEqDiff,f1],by simp -implicitDefEqProofs only [AA,↓reduceIte,Nat.reduceEqDiff,f2],by simp -implicitDefEqProofs only [AA,↓reduceIte,Nat.reduceEqDiff,f17],by simp -implicitDefEqProofs only [AA,↓reduceIte,Nat.reduceEqDiff,f18],by simp -implicitDefEqProofs only [AA,↓reduceIte,Nat.reduceEqDiff,f19],by simp -implicitDefEqProofs only [AA,↓reduceIte,Nat.reduceEqDiff],by simp -implicitDefEqProofs only [AA,↓reduceIte,Nat.reduceEqDiff],by simp -implicitDefEqProofs only [AA,↓reduceIte,Nat.reduceEqDiff],by simp -implicitDefEqProofs only [AA,↓reduceIte,Nat.reduceEqDiff],by simp -implicitDefEqProofs only [AA,↓reduceIte]; rfl,rfl,hok⟩ ?_
   clear f1 f2 f17 f18 f19
   rintro n' F H' ⟨k,hk,f1,f2,f17,f18,f19,f6,f7,f38,f39,f40,rfl,hr⟩
   simp -implicitDefEqProofs only [BC,BA,BL,A8,AY,BB,AO,AQ,AL,BD,AX,AC,AA,AZ,BU,AB,DT,↓reduceIte,oGs,bNf,enP,f39,f40]
   refine DC (fun hc => ?_) (fun hc => ?_)
   ·have hk':k < l[i].l.length:=by simpa using hc
    rw [ABN _ _ _ hk'] at hr
    simp -implicitDefEqProofs only [BC,BV,BA,BR,A8,AY,BB,AO,AQ,AL,BD,AX,AC,AA,AZ,BG,A7,BQ,CV,AB,↓reduceIte,Nat.reduceEqDiff,oGs,bNf,enP,MB,f38,f40,EF hk',EI ag3 hk',encI0]
    refine F7 (by kernel_rfl) ?_
    simp -implicitDefEqProofs only [GR,EU,D7,EW,G7,F9,AKL,IJ,IB,AO,AA,AZ,CB,BQ,GV,AB,lMc,lMn,lAn,↓reduceIte,Nat.reduceEqDiff,Nat.reduceAdd,oGs,enP,f2,f6,f7,ldM gm1,ldC gc1]
    refine ⟨_,hT _ _ k _ (by omega) (by omega) hfs (by omega),?_⟩
    try simp -implicitDefEqProofs only []
    refine ⟨_,UE G m m.crs[i] _ _ _ hcg.here (YW _ _ fun n hn=>(hfs n hn).1) (by omega) (by have:=hcg.num; omega),?_⟩
    try simp -implicitDefEqProofs only []
    refine ⟨_,QW G _ _ _,?_⟩
    try simp -implicitDefEqProofs only [D7,FZ,BL,A8,AA,AZ,AB,EX,↓reduceIte]
    cases hcb:countB l[i].l[k] (ZP m m.crs[i] (OV (szs m m.crs[i].pts) k))
    ·simp -implicitDefEqProofs only [BC,BA,BK,A8,CX,ED,TU,FY,DU,AY,BB,AO,AQ,AL,BD,AX,AC,AA,AU,BJ,A7,↓reduceIte,oGs,bNf]
     exact ⟨trivial,trivial,by rw [hr,hcb]; rfl⟩
    ·simp -implicitDefEqProofs only [BA,BR,A8,EP,FC,D5,AY,BB,AO,AQ,AL,BD,AX,AC,AA,AZ,AU,BI,BG,BU,AB,DV,↓reduceIte,Nat.reduceEqDiff,oGs,bNt,bNf,enP,f40,wrap_succ (show k < 9223372036854775807 by omega)]
     exact ⟨n' - 1,by omega,k+1,by omega,f1,f2,f17,f18,f19,f6,f7,f38,f39,rfl,trivial,by rw [hr,hcb]; rfl⟩
   ·have hk' : ¬ k < l[i].l.length:=by simpa using hc
    simp -implicitDefEqProofs only [DW,ER,O1,FM,AA,↓reduceIte,Nat.reduceEqDiff]
    exact ⟨f1,f2,f17,f18,f19,trivial,by rw [hr,List.drop_eq_nil_of_le (by omega)]; rfl⟩
  ·rintro F' H' ⟨g1,g2,g17,g18,g19,rfl,hr⟩
   simp -implicitDefEqProofs only [BA,A8,EP,FN,FC,AY,BB,AO,AQ,AL,BD,AX,AC,AA,AZ,AU,BI,BG,BU,AB,DV,↓reduceIte,Nat.reduceEqDiff,oGs,bNf,enP,g19,wrap_succ (show i < 9223372036854775807 by omega)]
   exact ⟨n - 1,by omega,i+1,by omega,g1,g2,g17,g18,rfl,gm1,hx1,by rw [hf,hr]; rfl⟩
  ·rintro F' H' ⟨g4,rfl,hr⟩
   simp -implicitDefEqProofs only [CX,ED,FY,CP,g4]
   exact ⟨by rw [hf,hr]; rfl,hx1⟩
 ·have hi' : ¬ i < m.crs.length:=by simpa using hc
  simp -implicitDefEqProofs only [BC,BA,BK,DW,A8,ER,FN,FM,CP,AY,BB,AO,AQ,AL,BD,AX,AC,AA,AU,BJ,A7,↓reduceIte,oGs,bNf]
  exact ⟨by rw [hf,AFZ (okC m) _ _ i (by omega) (by omega)],hx⟩
def LC (m:Mo) (v:Cvr):Bool:=(FW m == 0) && J7 okP m.pts v.pts && J7 (okC m) m.crs v.crs && JM v.sam && JM v.ill
theorem XY (n:Int):countB n true=JM n:=by unfold countB; simp
theorem ALR (G:Nat→AV) (hG:GOk G) (hT:PX G) (m:Mo) (v:Cvr) (hm:MoOk m) (hv:CvOk v) (h:Hp):PCall (En G) 66 [.agg (EC m),.agg (ES v)] h (.bool (LC m v)):=by
 refine ACalls.pure0 rfl ?_
 refine CE (H:=Hint.none) (enM G) Tryz.func66 rfl (by kernel_rfl) (by kernel_rfl) (nLb (by kernel_rfl)) ?_
 show awp _ _ _ _ _ (D9 _ [.tmp 4] _)
 have gm:(h ++ [ABlk.live 2 [EC m]] ++ [ABlk.live 4 [ES v]])[h.length]? = some (.live 2 [EC m]):=CJ (C9 _ _)
 have gv:=C9 (h ++ [ABlk.live 2 [EC m]]) (.live 4 [ES v])
 have hx : ∃ x,h ++ [ABlk.live 2 [EC m]] ++ [ABlk.live 4 [ES v]]=h ++ x:=⟨_,List.append_assoc _ _ _⟩
 simp -implicitDefEqProofs only [BC,BA,A8,AY,BB,AO,AQ,AL,BD,AX,AC,AA,AZ,AU,BJ,A7,FX,BQ,BX,BF,BO,↓reduceIte,Nat.reduceEqDiff,oGs,bNf,enP,bxM,bxV]
 generalize h ++ [ABlk.live 2 [EC m]] ++ [ABlk.live 4 [ES v]]=H at gm gv hx ⊢
 generalize (h ++ [ABlk.live 2 [EC m]]).length=vb at gv ⊢
 have l0:DL Tryz.prog H 26 (.ptr vb 0 0)=some (.sl v.pm 1 (v.pts.map encL)):=by rw [DK OA gv (row:=ES v) rfl,AF5]
 have l1:DL Tryz.prog H 26 (.ptr vb 0 1)=some (.sl v.cm 1 (v.crs.map encL)):=by rw [DK OA gv (row:=ES v) rfl,AB3]
 have l2:DL Tryz.prog H 3 (.ptr vb 0 2)=some (.int .i64 v.sam):=by rw [DK ag3 gv (row:=ES v) rfl,AOR]
 have l3:DL Tryz.prog H 3 (.ptr vb 0 3)=some (.int .i64 v.ill):=by rw [DK ag3 gv (row:=ES v) rfl,AJ7]
 simp -implicitDefEqProofs only [AY,AO,AQ,AL,BD,AX,AC,AA,AZ,CB,CG,BP,AB,lMc,lMn,lAn,↓reduceIte,oGs,bNf,ldM gm]
 refine (LH G hG m hm _).use ?_
 simp -implicitDefEqProofs only [AY,BH,BN,CO,AO,AQ,AL,BD,AX,AC,AA,AZ,AU,BI,BG,BU,AB,DX,↓reduceIte,oGs,bNf,enP]
 cases h1:(FW m == 0)
 ·simp -implicitDefEqProofs only [BK,A8,CP,AY,BB,BH,BN,CO,G5,AO,AQ,AL,BD,AX,AC,AA,EJ,AZ,AU,BJ,BG,A7,CQ,DN,↓reduceIte,Nat.reduceEqDiff,oGs,bNf]
  exact ⟨by unfold LC; rw [h1]; rfl,hx⟩
 have hg:=OI (beq_iff_eq.1 h1)
 simp -implicitDefEqProofs only [BH,BN,CO,FV,AO,AQ,AL,BD,AX,AC,AA,AZ,CB,BQ,BM,CG,BP,AB,lMc,lMn,lAn,↓reduceIte,Nat.reduceEqDiff,Nat.add_zero,oGs,bNf,enP,N8,ldM gm,l0]
 refine (ALS G m v.pts v.pm _ hm hv.eachP).use ?_
 simp -implicitDefEqProofs only [AY,BH,BN,CO,AO,AQ,AL,BD,AX,AC,AA,AZ,AU,BJ,BG,CQ,DR,↓reduceIte,Nat.reduceEqDiff,oGs,bNf]
 cases h2:J7 okP m.pts v.pts
 ·simp -implicitDefEqProofs only [BK,A8,CP,AY,BB,BH,BN,CO,G5,AO,AQ,AL,BD,AX,AC,AA,EJ,AZ,AU,BJ,BG,A7,CQ,DN,↓reduceIte,Nat.reduceEqDiff,oGs,bNf]
  exact ⟨by unfold LC; rw [h1,h2]; rfl,hx⟩
 simp -implicitDefEqProofs only [BH,BN,CO,FV,AO,AQ,AL,BD,AX,AC,AA,AZ,CB,BQ,BM,CG,BP,AB,lMc,lMn,lAn,↓reduceIte,Nat.reduceEqDiff,Nat.zero_add,oGs,bNf,enP,N7,ldM gm,l1]
 refine (ALT G hT m v.crs v.cm _ hm hg hv.eachC).use ?_
 simp -implicitDefEqProofs only [AY,BH,BN,CO,AO,AQ,AL,BD,AX,AC,AA,AZ,AU,BJ,BG,CQ,DR,↓reduceIte,Nat.reduceEqDiff,oGs,bNf]
 cases h3:J7 (okC m) m.crs v.crs
 ·simp -implicitDefEqProofs only [BK,A8,CP,AY,BB,BH,BN,CO,G5,AO,AQ,AL,BD,AX,AC,AA,EJ,AZ,AU,BJ,BG,A7,CQ,DN,↓reduceIte,Nat.reduceEqDiff,oGs,bNf]
  exact ⟨by unfold LC; rw [h1,h2,h3]; rfl,hx⟩
 simp -implicitDefEqProofs only [BH,BN,CO,FV,AO,AQ,AL,BD,AX,AC,AA,AZ,AU,CB,BJ,BQ,BM,CG,BP,AB,lMc,lMn,lAn,↓reduceIte,Nat.reduceEqDiff,Nat.zero_add,oGs,bNf,enP,ADH,l2]
 refine (QW G _ _ _).use ?_
 simp -implicitDefEqProofs only [AY,BH,BN,CO,AO,AQ,AL,BD,AX,AC,AA,AZ,AU,BJ,BG,CQ,DR,↓reduceIte,Nat.reduceEqDiff,oGs,bNf,XY]
 cases h4:JM v.sam
 ·simp -implicitDefEqProofs only [BK,A8,CP,AY,BB,BH,BN,CO,G5,AO,AQ,AL,BD,AX,AC,AA,EJ,AZ,AU,BJ,A7,CQ,DN,↓reduceIte,Nat.reduceEqDiff,oGs,bNf]
  exact ⟨by unfold LC; rw [h1,h2,h3,h4]; rfl,hx⟩
 simp -implicitDefEqProofs only [BH,BN,CO,FV,AO,AQ,AL,BD,AX,AC,AA,AZ,AU,CB,BJ,BQ,BM,CG,BP,AB,lMc,lMn,lAn,↓reduceIte,Nat.reduceEqDiff,Nat.zero_add,oGs,bNf,enP,ADG,l3]
 refine (QW G _ _ _).use ?_
 simp -implicitDefEqProofs only [BK,A8,CP,AY,BB,AO,AQ,AL,BD,AX,AC,AA,AZ,AU,BJ,A7,CQ,DR,↓reduceIte,Nat.reduceEqDiff,oGs,bNf,XY]
 exact ⟨by unfold LC; rw [h1,h2,h3,h4]; rfl,hx⟩
structure TwoV (h H:Hp) (m:Mo) (v:Cvr) (vb:Nat):Prop where
 gm:H[h.length]? = some (.live 2 [EC m])
 gv:H[vb]? = some (.live 4 [ES v])
 hx : ∃ x,H=h ++ x
theorem TwoV.mk' (h:Hp) (m:Mo) (v:Cvr):TwoV h (h ++ [.live 2 [EC m]] ++ [.live 4 [ES v]]) m v (h ++ [ABlk.live 2 [EC m]]).length:=⟨CJ (C9 _ _),C9 _ _,⟨_,List.append_assoc _ _ _⟩⟩
section
variable {h H:Hp} {m:Mo} {v:Cvr} {vb:Nat} (t:TwoV h H m v vb)
include t
theorem TwoV.m0:DL Tryz.prog H 22 (.ptr h.length 0 0)=some (.sl m.pm 6 (m.pts.map FO)):=by rw [DK U7 t.gm (row:=EC m) rfl,O8]
theorem TwoV.m1:DL Tryz.prog H 23 (.ptr h.length 0 1)=some (.sl m.cm 3 (m.crs.map F5)):=by rw [DK AD3 t.gm (row:=EC m) rfl,VX]
theorem TwoV.l0:DL Tryz.prog H 26 (.ptr vb 0 0)=some (.sl v.pm 1 (v.pts.map encL)):=by rw [DK OA t.gv (row:=ES v) rfl,AF5]
theorem TwoV.l1:DL Tryz.prog H 26 (.ptr vb 0 1)=some (.sl v.cm 1 (v.crs.map encL)):=by rw [DK OA t.gv (row:=ES v) rfl,AB3]
theorem TwoV.l2:DL Tryz.prog H 3 (.ptr vb 0 2)=some (.int .i64 v.sam):=by rw [DK ag3 t.gv (row:=ES v) rfl,AOR]
theorem TwoV.l3:DL Tryz.prog H 3 (.ptr vb 0 3)=some (.int .i64 v.ill):=by rw [DK ag3 t.gv (row:=ES v) rfl,AJ7]
end
structure Gl where
 cross:Bool
 idx:Nat
 bm:SM
 bins:List Int
 at_:Nat
def mkP (i k:Nat):Gl:=⟨false,i,.full,[(k:Int)],k⟩
def mkC (m:Mo) (i k:Nat) (c:Cr):Gl:=⟨true,i,.any,OV (szs m c.pts) k,k⟩
def gPk (i:Nat) (p:Pt):Nat→List Gl
 | 0 => []
 | k+1=>gPk i p k ++ (if (kindOf p k == 0)=true then [mkP i k] else [])
def gP (m:Mo):Nat→List Gl
 | 0 => []
 | i+1=>gP m i ++ (match m.pts[i]? with | some p=>gPk i p p.bins.length | none => [])
def gCk (m:Mo) (i:Nat) (c:Cr):Nat→List Gl
 | 0 => []
 | k+1=>gCk m i c k ++ (if ZP m c (OV (szs m c.pts) k)=true then [mkC m i k c] else [])
def gC (m:Mo):Nat→List Gl
 | 0=>gP m m.pts.length
 | i+1=>gC m i ++ (match m.crs[i]? with | some c=>gCk m i c (I4 (szs m c.pts)) | none => [])
def goals (m:Mo):List Gl:=gC m m.crs.length
def cellAt (l:List Is) (i k:Nat):Int:=match l[i]? with
 | some x=>(match x.l[k]? with | some z=>z | none=>0)
 | none=>0
def AU5 (v:Cvr) (g:Gl):Int:=if g.cross then cellAt v.crs g.idx g.at_ else cellAt v.pts g.idx g.at_
theorem AFY {α:Type} {ok:α→Is→Bool} : ∀ {ws:List α} {xs:List Is},J7 ok ws xs=true→∀ (i:Nat) (a:α),ws[i]? = some a→∃ x,xs[i]? = some x∧ok a x=true
 | [],[],_,i,a,h=>by simp at h
 | w :: ws,x :: xs,h,i,a,ha=>by
   simp only [J7,Bool.and_eq_true] at h
   cases i with
   | zero=>simp at ha; subst ha; exact ⟨x,rfl,h.1⟩
   | succ i=>exact AFY h.2 i a (by simpa using ha)
 | [],_ :: _,h,_,_,_=>by cases h
 | _ :: _,[],h,_,_,_=>by cases h
theorem ZV {m:Mo} {v:Cvr} (hf:LC m v=true):FW m=0:=by
 unfold LC at hf
 simp only [Bool.and_eq_true,beq_iff_eq] at hf
 exact hf.1.1.1.1
structure Three (h H:Hp) (m:Mo) (a b:Cvr) (ab bb:Nat):Prop where
 gm:H[h.length]? = some (.live 2 [EC m])
 ga:H[ab]? = some (.live 4 [ES a])
 gb:H[bb]? = some (.live 4 [ES b])
 hx : ∃ x,H=h ++ x
theorem Three.mk' (h:Hp) (m:Mo) (a b:Cvr):Three h (h ++ [.live 2 [EC m]] ++ [.live 4 [ES a]] ++ [.live 4 [ES b]]) m a b (h ++ [ABlk.live 2 [EC m]]).length (h ++ [ABlk.live 2 [EC m]] ++ [ABlk.live 4 [ES a]]).length :=
 ⟨CJ (CJ (C9 _ _)),CJ (C9 _ _),C9 _ _,⟨_,by rw [List.append_assoc,List.append_assoc]⟩⟩
def mkB (name:ByteArray) (kind lo hi:Int):Bin:=⟨name,kind,⟨.full,[⟨lo,hi⟩]⟩,.nil,[]⟩
theorem ATQ (a b:Int):JV Tryz.prog 185 [(0,.int .i64 a),(1,.int .i64 b)]=some (.agg [.int .i64 a,.int .i64 b]):=by kernel_rfl
theorem ATN (h:Hp) (a b:Int):EN Tryz.prog false h 118 1 [(0,.agg [.int .i64 a,.int .i64 b])]=some (.sl .full 2 [[.int .i64 a,.int .i64 b]],h):=by kernel_rfl
theorem AXI (s:ByteArray) (k:Int) (xs:List (List AV)):JV Tryz.prog 121 [(0,.str s),(1,.int .i64 k),(2,.sl .full 2 xs)]=some (.agg [.str s,.int .i64 k,.sl .full 2 xs,.sl .nil 0 []]):=by kernel_rfl
def rowB (s:ByteArray) (k lo hi:Int):List AV := [.str s,.int .i64 k,.sl .full 2 [[.int .i64 lo,.int .i64 hi]],.sl .nil 0 []]
theorem ATG (h:Hp) (s:ByteArray) (k lo hi:Int) (row:List AV) (hr:row.length=4):EY Tryz.prog (h ++ [.live 4 [row]]) 121 (.ptr h.length 0 0) (.agg [.str s,.int .i64 k,.sl .full 2 [[.int .i64 lo,.int .i64 hi]],.sl .nil 0 []])=some (h ++ [.live 4 [rowB s k lo hi]]):=by
 have h1:=KN (P:=Tryz.prog) (t:=121) (h:=h) (k:=4) (j:=0) (row:=row) (cs:=rowB s k lo hi) (v := .agg (rowB s k lo hi)) rfl OW (by rw [hr]; exact Nat.le_refl 4)
 have h2:splice row 0 (rowB s k lo hi)=rowB s k lo hi:=by unfold splice; simp [hr,rowB]
 rw [h2] at h1
 exact h1
theorem ADY (G:Nat→AV) (s:ByteArray) (k lo hi:Int) (h:Hp):PCall (En G) 145 [.str s,.int .i64 k,.int .i64 lo,.int .i64 hi] h (.agg (F6 (mkB s k lo hi))):=by
 have hp:PCall (En G) 145 [.str s,.int .i64 k,.int .i64 lo,.int .i64 hi] h (.agg (rowB s k lo hi)):=by
  refine ACalls.pure 2 (R:=fun v H=>v = .agg (rowB s k lo hi)∧∃ x,H=h ++ x) ?_ (fun v h' ⟨e,x⟩=>⟨x,by subst e; rfl⟩)
  refine CE (H:=Hint.none) (enM G) Tryz.func145 rfl (by kernel_rfl) (by kernel_rfl) (nLb (by kernel_rfl)) ?_
  show awp _ _ _ _ _ (D9 _ [.cell 8 121] _)
  simp -implicitDefEqProofs only [FI,FQ,BC,BA,BK,A8,AY,BB,AO,AQ,AL,BD,AX,AC,EM,AA,AZ,BG,EZ,JL,EE,D6,BX,AB,DI,BF,BO,↓reduceIte,Nat.reduceEqDiff,oGs,bNf,enP,Option.getD_none,ASV,ATQ,ATN,AXI,ATG _ _ _ _ _ [.str ⟨#[]⟩,.int .i64 0,.sl .nil 0 [],.sl .nil 0 []] rfl]
  refine ⟨trivial,.agg (rowB s k lo hi),?_,rfl,_,rfl⟩
  exact TG (P:=Tryz.prog) (h:=h) (k:=4) (row:=rowB s k lo hi) UI OW (Nat.le_refl 4)
 exact hp.res (CvR.agg (CvRL.cons (CvR.refl _) (CvRL.cons (CvR.refl _) (CvRL.cons (CvR.refl _) (CvRL.cons (CvR.sl (Cv.nil 0 1)) CvRL.nil)))))
def AR8:Ex := .mk 2 0 ⟨#[97]⟩ .nil []
def exP:Pt:=⟨⟨#[112]⟩,AR8,.full,[mkB ⟨#[108,111,119]⟩ 0 0 3,mkB ⟨#[104,105,103,104]⟩ 0 4 7,mkB ⟨#[110,111,110,101]⟩ 1 9 9]⟩
def exM:Mo:=⟨.full,[exP],.nil,[]⟩
theorem AXJ (n:Int) (s:ByteArray):JV Tryz.prog 53 [(0,.int .i64 n),(2,.str s)]=some (.agg [.int .i64 n,.int .i64 0,.str s,.sl .nil 0 []]):=by kernel_rfl
theorem AY2 (h:Hp) (a b c:Bin):EN Tryz.prog false h 54 3 [(0,.agg (F6 a)),(1,.agg (F6 b)),(2,.agg (F6 c))]=some (.sl .full 4 [F6 a,F6 b,F6 c],h):=by
 have h1:Tryz.prog.underlying 54=some (.slice 121):=by kernel_rfl
 have h3:TR Tryz.prog 121=some 4:=by kernel_rfl
 unfold EN
 simp only [h1,OW,h3]
 have h2:XI 4 0 [(0,AV.agg (F6 a)),(1,AV.agg (F6 b)),(2,AV.agg (F6 c))]=some [F6 a,F6 b,F6 c]:=rfl
 have fr : ∀ x:Bin,(F6 x).all AV.frozen=true:=fun _=>rfl
 simp [h2,fr]
theorem AY4 (s t:ByteArray) (n:Int) (xs:List (List AV)):JV Tryz.prog 56 [(0,.str s),(1,.agg [.int .i64 n,.int .i64 0,.str t,.sl .nil 0 []]),(2,.sl .full 4 xs)]=some (.agg [.str s,.int .i64 n,.int .i64 0,.str t,.sl .nil 0 [],.sl .full 4 xs]):=by kernel_rfl
theorem AXF (h:Hp) (s t:ByteArray) (n:Int) (xs:List (List AV)):EN Tryz.prog false h 22 1 [(0,.agg [.str s,.int .i64 n,.int .i64 0,.str t,.sl .nil 0 [],.sl .full 4 xs])]=some (.sl .full 6 [[.str s,.int .i64 n,.int .i64 0,.str t,.sl .nil 0 [],.sl .full 4 xs]],h):=by kernel_rfl
theorem AXO (xs:List (List AV)):JV Tryz.prog 25 [(0,.sl .full 6 xs)]=some (.agg [.sl .full 6 xs,.sl .nil 0 []]):=by kernel_rfl
theorem AXU (h:Hp):I9 Tryz.prog h 25=some (.ptr h.length 0 0,h ++ [.live 2 [[.sl .nil 0 [],.sl .nil 0 []]]]):=IY (row := [.sl .nil 0 [],.sl .nil 0 []]) (by kernel_rfl)
def WC:List AV := [.sl .full 6 [[.str ⟨#[112]⟩,.int .i64 2,.int .i64 0,.str ⟨#[97]⟩,.sl .nil 0 [],.sl .full 4 (exP.bins.map F6)]],.sl .nil 0 []]
theorem AVT (h:Hp) (row:List AV) (hr:row.length=2):EY Tryz.prog (h ++ [.live 2 [row]]) 25 (.ptr h.length 0 0) (.agg WC)=some (h ++ [.live 2 [WC]]):=by
 have h1:=KN (P:=Tryz.prog) (t:=25) (h:=h) (k:=2) (j:=0) (row:=row) (cs:=WC) (v := .agg WC) rfl AM2 (by rw [hr]; exact Nat.le_refl 2)
 have h2:splice row 0 WC=WC:=by unfold splice; simp [hr,WC]
 rw [h2] at h1
 exact h1
theorem AK0:CvR (.agg WC) (.agg (EC exM)):=by
 refine CvR.agg (CvRL.cons (CvR.sl (Cv.rows rfl ?_)) (CvRL.cons (CvR.sl (Cv.nil 0 3)) CvRL.nil))
 intro i r r' h1 h2
 match i,h1,h2 with
 | 0,h1,h2 =>
   cases h1; cases h2
   exact CvRow.cons rfl (Cv.refl _) (CvRow.cons rfl (Cv.refl _) (CvRow.cons rfl (Cv.refl _) (CvRow.cons rfl (Cv.refl _) (CvRow.cons rfl (Cv.nil 0 4) (CvRow.cons rfl (Cv.refl _) CvRow.nil)))))
 | _+1,h1,_=>cases h1
theorem sample (G:Nat→AV) (h:Hp):PCall (En G) 84 [] h (.agg (EC exM)):=by
 have hp:PCall (En G) 84 [] h (.agg WC):=by
  refine ACalls.pure 2 (R:=fun v H=>v = .agg WC∧∃ x,H=h ++ x) ?_ (fun v h' ⟨e,x⟩=>⟨x,by subst e; rfl⟩)
  refine CE (H:=Hint.none) (enM G) Tryz.func84 rfl (by kernel_rfl) (by kernel_rfl) (nLb (by kernel_rfl)) ?_
  show awp _ _ _ _ _ (D9 _ [.cell 0 25] _)
  simp -implicitDefEqProofs only [FI,FQ,BC,BA,A8,AY,BB,AO,AQ,AL,BD,AX,AC,AU,CB,BI,GZ,EZ,JL,CG,BP,BX,AB,lMc,lMn,lAn,oGs,bNf,enP,AXU,AXJ]
  refine (ADY G _ _ _ _ _).use ?_
  simp -implicitDefEqProofs only [AY,AO,AQ,AL,BD,AX,AC,AU,CB,BI,GZ,CG,BP,lMc,lMn,lAn,oGs,bNf]
  refine (ADY G _ _ _ _ _).use ?_
  simp -implicitDefEqProofs only [AY,AO,AQ,AL,BD,AX,AC,AU,CB,BI,GZ,CG,BP,lMc,lMn,lAn,oGs,bNf]
  refine (ADY G _ _ _ _ _).use ?_
  simp -implicitDefEqProofs only [FI,FQ,AY,AO,AQ,AL,BD,AX,AC,AA,AZ,AU,GZ,JL,EE,D6,BX,AB,↓reduceIte,Nat.reduceEqDiff,oGs,bNf,enP,Option.getD_none,AY2,AY4,AXF,AXO]
  refine JC (v:=GN) (h:=h ++ [.live 2 [WC]]) (by
   have:=AVT h [.sl .nil 0 [],.sl .nil 0 []] rfl
   exact congrArg ofS this) ?_
  simp -implicitDefEqProofs only [BK,A8,BB,EM]
  refine ⟨trivial,.agg WC,?_,rfl,_,rfl⟩
  exact TG (P:=Tryz.prog) (h:=h) (k:=2) (row:=WC) AVE AM2 (Nat.le_refl 2)
 exact hp.res AK0
end Go.Proofs.YtocilianjfhifaaGreatDoor.Cov
