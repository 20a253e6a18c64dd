/- Part 7 of the proof (M12, M13, M14, N1, N2, N3, N4, N5, N6); no condition. -/
import Derived.Test.YtocilianjfhifaaGreatDoorV6
set_option linter.unusedVariables false
/- Coverages that fit a model: the program, given cover.tuple's contract; no condition but the bounds on lengths. -/
set_option linter.unusedSimpArgs false
set_option maxRecDepth 8000
namespace Go.Proofs.YtocilianjfhifaaGreatDoor.Cov
open Go Go.Proofs Go.Proofs.YtocilianjfhifaaGreatDoor.Sm Go.Proofs.YtocilianjfhifaaGreatDoor.Bins Go.RowKit

/-- a coverage -/
structure Cvr where
 pm:SM
 pts:List Is
 cm:SM
 crs:List Is
 sam:Int
 ill:Int
def EF (v:Cvr):List AV := [.sl v.pm 1 (v.pts.map HY),.sl v.cm 1 (v.crs.map HY),.int .i64 v.sam,.int .i64 v.ill]
theorem AIR (v:Cvr):(EF v)[0]? = some (.sl v.pm 1 (v.pts.map HY)):=rfl
theorem AIQ (v:Cvr):(EF v)[1]? = some (.sl v.cm 1 (v.crs.map HY)):=rfl
theorem ARU (v:Cvr):(EF v)[2]? = some (.int .i64 v.sam):=rfl
theorem ART (v:Cvr):(EF v)[3]? = some (.int .i64 v.ill):=rfl
theorem MC (v:Cvr):(EF v).length=4:=rfl
theorem bxV (h:Hp) (v:Cvr):PY h (.agg (EF v))=some (.ptr h.length 0 0,h ++ [.live 4 [EF v]]):=rfl
theorem ldV {h:Hp} {b:Nat} {v:Cvr} (hb:h[b]? = some (.live 4 [EF v])):EE Tryz.prog h 28 (.ptr b 0 0)=some (.agg (EF v)):=by
 rw [JE ACR TS hb rfl (by rw [MC]; exact Nat.le_refl 4)]; rfl
/-- counts, one by one -/
def PE (p:Nat→Bool):Nat→List Int→Bool
 | _,[]=>true
 | k,n :: ns=>countB n (p k) && PE p (k+1) ns
theorem U7 (p:Nat→Bool) (l:List Int) (k:Nat) (hk:k < l.length):PE p k (l.drop k)=(countB l[k] (p k) && PE p (k+1) (l.drop (k+1))):=by
 rw [List.drop_eq_getElem_cons hk]; rfl
def KQ {α:Type} (ok:α→Is→Bool):List α→List Is→Bool
 | [],[]=>true
 | a :: ws,x :: xs=>ok a x && KQ ok ws xs
 | _,_=>false
theorem OB {α:Type} {ok:α→Is→Bool} : ∀ {ws:List α} {xs:List Is},KQ ok ws xs=true→ws.length=xs.length
 | [],[],_=>rfl
 | a :: ws,x :: xs,h=>by
   simp only [KQ,Bool.and_eq_true] at h
   simp [OB h.2]
 | [],_ :: _,h=>by cases h
 | _ :: _,[],h=>by cases h
theorem VF {α:Type} (ok:α→Is→Bool) (ws:List α) (xs:List Is) (k:Nat) (ha:k < ws.length) (hx:k < xs.length):KQ ok (ws.drop k) (xs.drop k)=(ok ws[k] xs[k] && KQ ok (ws.drop (k+1)) (xs.drop (k+1))):=by
 rw [List.drop_eq_getElem_cons ha,List.drop_eq_getElem_cons hx]; rfl
theorem XK {α:Type} (ok:α→Is→Bool) (ws:List α) (xs:List Is) (k:Nat) (ha:ws.length≤k) (hx:xs.length≤k):KQ ok (ws.drop k) (xs.drop k)=true:=by
 rw [List.drop_eq_nil_of_le ha,List.drop_eq_nil_of_le hx]; rfl
def kindOf (p:Pt) (k:Nat):Int:=match p.bins[k]? with
 | some b=>b.kind
 | none=>0
def okP (p:Pt) (x:Is):Bool:=(x.l.length == p.bins.length) && PE (fun k=>kindOf p k == 0) 0 x.l
def okC (m:Mo) (c:Cr) (x:Is):Bool:=(x.l.length == FY (szs m c.pts)) && PE (fun k=>PW m c (NP (szs m c.pts) k)) 0 x.l
structure CvOk (v:Cvr):Prop where
 pts:v.pts.length≤1048576
 crs:v.crs.length≤1048576
 eachP : ∀ x∈v.pts,x.l.length≤1048576
 eachC : ∀ x∈v.crs,x.l.length≤1048576
theorem AOX (G:Nat→AV) (m:Mo) (l:List Is) (s:SM) (h:Hp) (hm:MoOk m) (hl : ∀ x∈l,x.l.length≤1048576):PCall (En G) 124 [.agg (DU m),.sl s 1 (l.map HY)] h (.bool (KQ okP m.pts l)):=by
 refine ACalls.pure0 rfl ?_
 have hm1:=hm.np
 refine CG (H:=Hint.none) (enM G) Tryz.func124 rfl (by kernel_rfl) (by kernel_rfl) (Nat.le_of_ble_eq_true (by kernel_rfl)) ?_
 show awp _ _ _ _ _ (EU _ [.tmp 4] _)
 simp -implicitDefEqProofs only [BB,AZ,BI,A8,AY,BC,AO,AQ,AL,BD,AX,AC,AA,A7,AU,BL,BF,BA,FK,BO,BQ,BJ,DN,BR,AB,EQ,BG,BV,↓reduceIte,Nat.reduceEqDiff,Nat.add_zero,Option.getD_some,Bool.not_false,enP,QE,IG,YF,bxM,DI VN,QK,List.length_map]
 refine CQ (fun h1 => ?_) (fun h1 => ?_)
 ·simp -implicitDefEqProofs only [BB,AZ,BM,A8,CS,CU,AY,BC,AO,AQ,AL,BD,AX,AC,AA,AU,BL,BA,↓reduceIte,Option.getD_some,Bool.not_false]
  have:KQ okP m.pts l=false:=by
   rw [← Bool.not_eq_true]; intro e
   have:=OB e
   simp at h1; omega
  exact ⟨by rw [this],_,rfl⟩
 have hlen:l.length=m.pts.length:=by simp at h1; omega
 simp -implicitDefEqProofs only [BB,BP,AZ,BN,A8,AY,BC,AO,AQ,AL,BD,AX,AC,AA,A7,AU,BH,BF,BO,BJ,DN,AB,↓reduceIte,Nat.reduceEqDiff,Nat.add_zero,Option.getD_some,Bool.not_false,enP,QE,IG,DI VN,QK,List.length_map]
 refine C9 (fun n F H => ∃ i,n+i=m.pts.length∧F 1 = .sl s 1 (l.map HY)∧F 16 = .sl m.pm 6 (m.pts.map IM)∧F 17 = .int .i64 m.pts.length∧F 18 = .int .i64 (i:Nat)∧(∃ x,H=h ++ x)∧KQ okP m.pts l=KQ okP (m.pts.drop i) (l.drop i)) m.pts.length ⟨0,by simp,by simp -implicitDefEqProofs only [AA,BG,BV,↓reduceIte,Nat.reduceEqDiff],by simp -implicitDefEqProofs only [AA,↓reduceIte,Nat.reduceEqDiff],by simp -implicitDefEqProofs only [AA,↓reduceIte,Nat.reduceEqDiff],by simp -implicitDefEqProofs only [AA,↓reduceIte]; rfl,⟨_,rfl⟩,rfl⟩ ?_
 rintro n F H ⟨i,hi,f1,f16,f17,f18,hx,hf⟩
 simp -implicitDefEqProofs only [BB,AZ,BI,A8,AY,BC,AO,AQ,AL,BD,AX,AC,AA,A7,BQ,AB,CW,↓reduceIte,Option.getD_some,Bool.not_false,enP,f17,f18]
 refine CQ (fun hc => ?_) (fun hc => ?_)
 ·have hi':i < m.pts.length:=by simpa using hc
  have hil:i < l.length:=by omega
  rw [VF okP m.pts l i hi' hil] at hf
  have hx1 : ∃ x,H ++ [ABlk.live 6 [IM m.pts[i]]]=h ++ x:=by
   obtain ⟨x,rfl⟩:=hx
   exact ⟨_,List.append_assoc _ _ _⟩
  have hxl:=hl _ (List.getElem_mem hil)
  simp -implicitDefEqProofs only [BB,BP,AZ,BN,A8,AY,BC,AO,AQ,AL,BD,AX,AC,EZ,AA,A7,BF,BA,FW,BO,EI,BZ,BR,AB,DR,↓reduceIte,Nat.reduceEqDiff,Option.getD_some,Bool.not_false,enP,OJ,Option.getD_none,f16,f18,DJ hi',FD AGM ZM J8 hi',AVG,ATA _ _ [.str ⟨#[]⟩,.int .i64 0,.int .i64 0,.str ⟨#[]⟩,.sl .nil 0 [],.sl .nil 0 []] rfl]
  refine ER (by kernel_rfl) ?_
  simp -implicitDefEqProofs only [F7,D9,DT,E8,EC,FH,FC,IE,D5,D7,GV,BI,A8,AO,AA,A7,BO,BQ,BJ,BZ,DN,AB,EQ,↓reduceIte,Nat.reduceEqDiff,Nat.reduceAdd,Nat.zero_add,Option.getD_some,enP,QT,QS,IU,IL,f1,DJ hil,CV LC hil,NC,DI PO,ML,List.length_map]
  refine CQ (fun h2 => ?_) (fun h2 => ?_)
  ·simp -implicitDefEqProofs only [BB,AZ,BM,A8,CS,EG,FM,CU,AY,BC,AO,AQ,AL,BD,AX,AC,AA,AU,BL,BA,↓reduceIte,Option.getD_some,Bool.not_false]
   have:okP m.pts[i] l[i]=false:=by
    have:(l[i].l.length == m.pts[i].bins.length)=false:=by
     rw [beq_eq_false_iff_ne]; intro e; simp [e] at h2
    unfold okP; rw [this]; rfl
   exact ⟨by rw [hf,this]; rfl,hx1⟩
  have hbl:l[i].l.length=m.pts[i].bins.length:=by simp at h2; omega
  have hok:okP m.pts[i] l[i]=PE (fun k=>kindOf m.pts[i] k == 0) 0 l[i].l:=by
   unfold okP; rw [beq_iff_eq.2 hbl]; rfl
  simp -implicitDefEqProofs only [BB,BP,AZ,BN,A8,AY,BC,AO,AQ,AL,BD,AX,AC,AA,A7,AU,BH,BF,BO,BZ,DN,AB,↓reduceIte,Nat.reduceEqDiff,Option.getD_some,Bool.not_false,enP,QT,IL,f1,DJ hil,CV LC hil,NC,List.length_map]
  refine F8 2 (fun F' H'=>F' 1 = .sl s 1 (l.map HY)∧F' 16 = .sl m.pm 6 (m.pts.map IM)∧F' 17 = .int .i64 m.pts.length∧F' 18 = .int .i64 (i:Nat)∧H'=H ++ [.live 6 [IM m.pts[i]]]∧okP m.pts[i] l[i]=true) (fun F' H'=>F' 4 = .bool false∧H'=H ++ [.live 6 [IM m.pts[i]]]∧okP m.pts[i] l[i]=false) ?_ ?_ ?_
  ·refine C9 (fun n F' H' => ∃ k,n+k=l[i].l.length∧F' 1 = .sl s 1 (l.map HY)∧F' 16 = .sl m.pm 6 (m.pts.map IM)∧F' 17 = .int .i64 m.pts.length∧F' 18 = .int .i64 (i:Nat)∧F' 6 = .ptr H.length 0 0∧F' 35 = .sl l[i].m 1 (l[i].l.map encI)∧F' 36 = .int .i64 l[i].l.length∧F' 37 = .int .i64 (k:Nat)∧H'=H ++ [.live 6 [IM m.pts[i]]]∧okP m.pts[i] l[i]=PE (fun k=>kindOf m.pts[i] k == 0) k (l[i].l.drop k)) l[i].l.length ⟨0,by simp,by simp -implicitDefEqProofs only [AA,↓reduceIte,Nat.reduceEqDiff,f1],by simp -implicitDefEqProofs only [AA,↓reduceIte,Nat.reduceEqDiff,f16],by simp -implicitDefEqProofs only [AA,↓reduceIte,Nat.reduceEqDiff,f17],by simp -implicitDefEqProofs only [AA,↓reduceIte,Nat.reduceEqDiff,f18],by simp -implicitDefEqProofs only [AA,↓reduceIte,Nat.reduceEqDiff],by simp -implicitDefEqProofs only [AA,↓reduceIte,Nat.reduceEqDiff],by simp -implicitDefEqProofs only [AA,↓reduceIte,Nat.reduceEqDiff],by simp -implicitDefEqProofs only [AA,↓reduceIte]; rfl,rfl,hok⟩ ?_
   clear f1 f16 f17 f18
   rintro n' F H' ⟨k,hk,f1,f16,f17,f18,f6,f35,f36,f37,rfl,hr⟩
   simp -implicitDefEqProofs only [BB,AZ,BI,A8,AY,BC,AO,AQ,AL,BD,AX,AC,AA,A7,BQ,AB,CW,↓reduceIte,Option.getD_some,Bool.not_false,enP,f36,f37]
   refine CQ (fun hc => ?_) (fun hc => ?_)
   ·have hk':k < l[i].l.length:=by simpa using hc
    have hkb:k < m.pts[i].bins.length:=by omega
    have hkd:kindOf m.pts[i] k=(m.pts[i].bins[k]).kind:=by unfold kindOf; rw [List.getElem?_eq_getElem hkb]
    rw [U7 _ _ _ hk',hkd] at hr
    simp -implicitDefEqProofs only [BB,BP,AZ,BN,A8,AY,BC,AO,AQ,AL,BD,AX,AC,AA,A7,CB,BF,BA,BO,BJ,BZ,CE,BX,AB,List.map_cons,List.map_nil,List.append_nil,↓reduceIte,Nat.reduceEqDiff,Nat.zero_add,Option.getD_some,Bool.not_false,enP,XD,IU,JQ,f6,f35,f37,DJ hk',CV ag3 hk',encI0,DI PO,ML,DJ hkb,FD ZI UB MP hkb]
    refine (ZC G _ _).use ?_
    simp -implicitDefEqProofs only [AY,AO,AQ,AL,BD,AX,AC,AA,A7,CB,CE,BX,List.map_cons,List.map_nil,List.append_nil,↓reduceIte,Nat.reduceEqDiff,Option.getD_some,Bool.not_false]
    refine (TI G _ _ _).use ?_
    simp -implicitDefEqProofs only [BI,A8,AY,BC,AO,AQ,AL,BD,AX,AC,AA,A7,H9,AB,FB,↓reduceIte,Option.getD_some,Bool.not_false]
    cases hcb:countB l[i].l[k] (m.pts[i].bins[k].kind == 0)
    ·simp -implicitDefEqProofs only [BB,AZ,BM,A8,CS,EG,LW,FM,DX,AY,BC,AO,AQ,AL,BD,AX,AC,AA,AU,BL,BA,↓reduceIte,Option.getD_some,Bool.not_false]
     exact ⟨trivial,trivial,by rw [hr,hcb]; rfl⟩
    ·simp -implicitDefEqProofs only [AZ,BN,A8,D8,ED,DY,AY,BC,AO,AQ,AL,BD,AX,AC,AA,A7,AU,BH,BF,BQ,AB,CZ,↓reduceIte,Nat.reduceEqDiff,Option.getD_some,Bool.not_true,Bool.not_false,enP,f37,wrap_succ (show k < 9223372036854775807 by omega)]
     exact ⟨n' - 1,by omega,k+1,by omega,f1,f16,f17,f18,f6,f35,f36,rfl,trivial,by rw [hr,hcb]; rfl⟩
   ·have hk' : ¬ k < l[i].l.length:=by simpa using hc
    simp -implicitDefEqProofs only [DC,DZ,JM,EP,AA,↓reduceIte,Nat.reduceEqDiff]
    exact ⟨f1,f16,f17,f18,trivial,by rw [hr,List.drop_eq_nil_of_le (by omega)]; rfl⟩
  ·rintro F' H' ⟨g1,g16,g17,g18,rfl,hr⟩
   simp -implicitDefEqProofs only [AZ,A8,D8,EN,ED,AY,BC,AO,AQ,AL,BD,AX,AC,AA,A7,AU,BH,BF,BQ,AB,CZ,↓reduceIte,Nat.reduceEqDiff,Option.getD_some,Bool.not_false,enP,g18,wrap_succ (show i < 9223372036854775807 by omega)]
   exact ⟨n - 1,by omega,i+1,by omega,g1,g16,g17,rfl,hx1,by rw [hf,hr]; rfl⟩
  ·rintro F' H' ⟨g4,rfl,hr⟩
   simp -implicitDefEqProofs only [CS,EG,FM,CU,g4]
   exact ⟨by rw [hf,hr]; rfl,hx1⟩
 ·have hi' : ¬ i < m.pts.length:=by simpa using hc
  simp -implicitDefEqProofs only [BB,AZ,BM,DC,A8,DZ,EN,EP,CU,AY,BC,AO,AQ,AL,BD,AX,AC,AA,AU,BL,BA,↓reduceIte,Option.getD_some,Bool.not_false]
  exact ⟨by rw [hf,XK okP _ _ i (by omega) (by omega)],hx⟩
end Go.Proofs.YtocilianjfhifaaGreatDoor.Cov
/- Coverages that fit a model: crosses, and the whole; the program, given cover.tuple's contract; no condition but the variables that are laid and the bounds on lengths. -/
set_option linter.unusedSimpArgs false
set_option maxRecDepth 8000
namespace Go.Proofs.YtocilianjfhifaaGreatDoor.Cov
open Go Go.Proofs Go.Proofs.YtocilianjfhifaaGreatDoor.Sm Go.Proofs.YtocilianjfhifaaGreatDoor.Bins Go.RowKit

/-- the contract of cover.tuple -/
def J5 (G:Nat→AV):Prop := ∀ (ns:List Nat) (s:SM) (K:Nat) (h:Hp),0 < ns.length→ns.length≤4→(∀ n∈ns,1≤n∧n≤64)→K≤1048576 →
 PCall (En G) 168 [.sl s 1 (ns.map FI),.int .i64 (K:Int)] h (.sl .any 1 ((NP ns K).map encI))
structure CrGood (m:Mo) (c:Cr):Prop where
 here:Here m c.pts
 two:2≤c.pts.length
 four:c.pts.length≤4
 prod:FY (szs m c.pts)≤256
 num:c.excl.length≤256
 excl : ∀ x∈c.excl,LY (szs m c.pts) x.l=true
theorem AO6 {m:Mo} {c:Cr} (h:IA m c=0):CrGood m c:=by
 unfold IA at h
 split at h
 ·cases h
 ·split at h
  ·cases h
  ·split at h
   ·cases h
   ·split at h
    ·cases h
    ·split at h
     ·cases h
     ·rename_i h1 h2 h3 h4 h5
      have h3':UK m.pts.length none c.pts=true:=by simpa using h3
      refine ⟨VC h3',by omega,by omega,by omega,by omega,fun x hx => ?_⟩
      rw [Bool.not_eq_true,List.any_eq_false] at h5
      have:=h5 x hx
      simpa using this
structure Good (m:Mo):Prop where
 num:m.pts.length+m.crs.length≤16
 full:Full m
 crs : ∀ c∈m.crs,CrGood m c
theorem J4 {m:Mo} (h:FU m=0):Good m:=by
 unfold FU at h
 split at h
 ·cases h
 ·split at h
  ·rename_i h2; exact absurd h h2
  ·split at h
   ·cases h
   ·split at h
    ·rename_i h4; exact absurd h h4
    ·rename_i h1 h2 h3 h4
     refine ⟨by omega,full_of (by simpa using h2),fun c hc=>AO6 (ABV _ (by simpa using h4) c hc)⟩
theorem AOY (G:Nat→AV) (hT:J5 G) (m:Mo) (l:List Is) (s:SM) (h:Hp) (hm:MoOk m) (hg:Good m) (hl : ∀ x∈l,x.l.length≤1048576):PCall (En G) 125 [.agg (DU m),.sl s 1 (l.map HY)] h (.bool (KQ (okC m) m.crs l)):=by
 refine ACalls.pure0 rfl ?_
 have hm1:=hm.nc
 refine CG (H:=Hint.none) (enM G) Tryz.func125 rfl (by kernel_rfl) (by kernel_rfl) (Nat.le_of_ble_eq_true (by kernel_rfl)) ?_
 show awp _ _ _ _ _ (EU _ [.tmp 4] _)
 simp -implicitDefEqProofs only [BB,AZ,BI,A8,AY,BC,AO,AQ,AL,BD,AX,AC,AA,A7,AU,BL,BF,BA,FK,BO,BQ,BJ,DN,BR,AB,EQ,BG,BV,↓reduceIte,Nat.reduceEqDiff,Nat.zero_add,Option.getD_some,Bool.not_false,enP,TB,IX,YF,bxM,DI YV,TP,List.length_map]
 refine CQ (fun h1 => ?_) (fun h1 => ?_)
 ·simp -implicitDefEqProofs only [BB,AZ,BM,A8,CS,CU,AY,BC,AO,AQ,AL,BD,AX,AC,AA,AU,BL,BA,↓reduceIte,Option.getD_some,Bool.not_false]
  have:KQ (okC m) m.crs l=false:=by
   rw [← Bool.not_eq_true]; intro e
   have:=OB e
   simp at h1; omega
  exact ⟨by rw [this],_,rfl⟩
 have hlen:l.length=m.crs.length:=by simp at h1; omega
 simp -implicitDefEqProofs only [BB,BP,AZ,BN,A8,AY,BC,AO,AQ,AL,BD,AX,AC,AA,A7,AU,BH,BF,BO,BJ,DN,AB,↓reduceIte,Nat.reduceEqDiff,Nat.zero_add,Option.getD_some,Bool.not_false,enP,TB,IX,DI YV,TP,List.length_map]
 refine C9 (fun n F H => ∃ i,n+i=m.crs.length∧F 1 = .sl s 1 (l.map HY)∧F 2 = .ptr h.length 0 0∧F 17 = .sl m.cm 3 (m.crs.map H6)∧F 18 = .int .i64 m.crs.length∧F 19 = .int .i64 (i:Nat)∧H[h.length]? = some (.live 2 [DU m])∧(∃ x,H=h ++ x)∧KQ (okC m) m.crs l=KQ (okC m) (m.crs.drop i) (l.drop i)) m.crs.length ⟨0,by simp,by simp -implicitDefEqProofs only [AA,BG,BV,↓reduceIte,Nat.reduceEqDiff],by simp -implicitDefEqProofs only [AA,↓reduceIte,Nat.reduceEqDiff],by simp -implicitDefEqProofs only [AA,↓reduceIte,Nat.reduceEqDiff],by simp -implicitDefEqProofs only [AA,↓reduceIte,Nat.reduceEqDiff],by simp -implicitDefEqProofs only [AA,↓reduceIte]; rfl,CX _ _,⟨_,rfl⟩,rfl⟩ ?_
 rintro n F H ⟨i,hi,f1,f2,f17,f18,f19,gm,hx,hf⟩
 simp -implicitDefEqProofs only [BB,AZ,BI,A8,AY,BC,AO,AQ,AL,BD,AX,AC,AA,A7,BQ,AB,CW,↓reduceIte,Option.getD_some,Bool.not_false,enP,f18,f19]
 refine CQ (fun hc => ?_) (fun hc => ?_)
 ·have hi':i < m.crs.length:=by simpa using hc
  have hil:i < l.length:=by omega
  rw [VF (okC m) m.crs l i hi' hil] at hf
  have hcg:=hg.crs _ (List.getElem_mem hi')
  have hfs:=hg.full.szs hcg.here
  have hsl:=J3 m m.crs[i].pts
  have hx1 : ∃ x,H ++ [ABlk.live 3 [H6 m.crs[i]]]=h ++ x:=by
   obtain ⟨x,rfl⟩:=hx
   exact ⟨_,List.append_assoc _ _ _⟩
  have hxl:=hl _ (List.getElem_mem hil)
  have gm1:(H ++ [ABlk.live 3 [H6 m.crs[i]]])[h.length]? = some (.live 2 [DU m]):=DL gm
  have gc1:=CX H (.live 3 [H6 m.crs[i]])
  have htwo:=hcg.two
  have hfour:=hcg.four
  have hpr:=hcg.prod
  simp -implicitDefEqProofs only [BB,BP,AZ,BN,A8,AY,BC,AO,AQ,AL,BD,AX,AC,EZ,AA,A7,CB,BF,BA,FW,BO,EI,BZ,CE,BX,BR,AB,DR,List.map_cons,List.map_nil,List.append_nil,↓reduceIte,Nat.reduceEqDiff,Option.getD_some,Bool.not_false,enP,RF,Option.getD_none,f2,f17,f19,DJ hi',FD ACQ X7 KG hi',AVF,AS9 _ _ [.str ⟨#[]⟩,.sl .nil 0 [],.sl .nil 0 []] rfl,ldM gm1,ldC gc1]
  refine (V6 G m _ _ hcg.here (by omega)).use ?_
  simp -implicitDefEqProofs only [BB,A8,AY,BC,AO,AQ,AL,BD,AX,AC,AA,A7,BA,↓reduceIte,Option.getD_some,Bool.not_false]
  refine ER (by kernel_rfl) ?_
  simp -implicitDefEqProofs only [F7,D9,DT,EC,FH,FC,IE,D7,GV,GM,F6,AO,AA,A7,CB,BO,BQ,BZ,DN,AB,List.map_cons,List.map_nil,List.append_nil,↓reduceIte,Nat.reduceEqDiff,Nat.reduceAdd,Option.getD_some,enP,QT,IL,f1,DJ hil,CV LC hil,NC,List.length_map]
  refine ⟨_,S9 G _ _ _ (fun n hn=>(hfs n hn).2) (by omega),?_⟩
  try simp -implicitDefEqProofs only [DT,E8,BI,A8,AA,A7,AB,EQ,↓reduceIte]
  refine CQ (fun h2 => ?_) (fun h2 => ?_)
  ·simp -implicitDefEqProofs only [BB,AZ,BM,A8,CS,EG,FM,CU,AY,BC,AO,AQ,AL,BD,AX,AC,AA,AU,BL,BA,↓reduceIte,Option.getD_some,Bool.not_false]
   have:okC m m.crs[i] l[i]=false:=by
    have:(l[i].l.length == FY (szs m m.crs[i].pts))=false:=by
     rw [beq_eq_false_iff_ne]; intro e; simp [e] at h2
    unfold okC; rw [this]; rfl
   exact ⟨by rw [hf,this]; rfl,hx1⟩
  have hbl:l[i].l.length=FY (szs m m.crs[i].pts):=by simp at h2; omega
  have hok:okC m m.crs[i] l[i]=PE (fun k=>PW m m.crs[i] (NP (szs m m.crs[i].pts) k)) 0 l[i].l:=by
   unfold okC; rw [beq_iff_eq.2 hbl]; rfl
  simp -implicitDefEqProofs only [BB,BP,AZ,BN,A8,AY,BC,AO,AQ,AL,BD,AX,AC,AA,A7,AU,BH,BF,BO,BZ,DN,AB,↓reduceIte,Nat.reduceEqDiff,Option.getD_some,Bool.not_false,enP,QT,IL,f1,DJ hil,CV LC hil,NC,List.length_map]
  refine F8 2 (fun F' H'=>F' 1 = .sl s 1 (l.map HY)∧F' 2 = .ptr h.length 0 0∧F' 17 = .sl m.cm 3 (m.crs.map H6)∧F' 18 = .int .i64 m.crs.length∧F' 19 = .int .i64 (i:Nat)∧H'=H ++ [.live 3 [H6 m.crs[i]]]∧okC m m.crs[i] l[i]=true) (fun F' H'=>F' 4 = .bool false∧H'=H ++ [.live 3 [H6 m.crs[i]]]∧okC m m.crs[i] l[i]=false) ?_ ?_ ?_
  ·refine C9 (fun n F' H' => ∃ k,n+k=l[i].l.length∧F' 1 = .sl s 1 (l.map HY)∧F' 2 = .ptr h.length 0 0∧F' 17 = .sl m.cm 3 (m.crs.map H6)∧F' 18 = .int .i64 m.crs.length∧F' 19 = .int .i64 (i:Nat)∧F' 6 = .ptr H.length 0 0∧F' 7 = .sl (nm (szs m m.crs[i].pts)) 1 ((szs m m.crs[i].pts).map FI)∧F' 38 = .sl l[i].m 1 (l[i].l.map encI)∧F' 39 = .int .i64 l[i].l.length∧F' 40 = .int .i64 (k:Nat)∧H'=H ++ [.live 3 [H6 m.crs[i]]]∧okC m m.crs[i] l[i]=PE (fun k=>PW m m.crs[i] (NP (szs m m.crs[i].pts) k)) k (l[i].l.drop k)) l[i].l.length ⟨0,by simp,by simp -implicitDefEqProofs only [AA,↓reduceIte,Nat.reduceEqDiff,f1],by simp -implicitDefEqProofs only [AA,↓reduceIte,Nat.reduceEqDiff,f2],by simp -implicitDefEqProofs only [AA,↓reduceIte,Nat.reduceEqDiff,f17],by simp -implicitDefEqProofs only [AA,↓reduceIte,Nat.reduceEqDiff,f18],by simp -implicitDefEqProofs only [AA,↓reduceIte,Nat.reduceEqDiff,f19],by simp -implicitDefEqProofs only [AA,↓reduceIte,Nat.reduceEqDiff],by simp -implicitDefEqProofs only [AA,↓reduceIte,Nat.reduceEqDiff],by simp -implicitDefEqProofs only [AA,↓reduceIte,Nat.reduceEqDiff],by simp -implicitDefEqProofs only [AA,↓reduceIte,Nat.reduceEqDiff],by simp -implicitDefEqProofs only [AA,↓reduceIte]; rfl,rfl,hok⟩ ?_
   clear f1 f2 f17 f18 f19
   rintro n' F H' ⟨k,hk,f1,f2,f17,f18,f19,f6,f7,f38,f39,f40,rfl,hr⟩
   simp -implicitDefEqProofs only [BB,AZ,BI,A8,AY,BC,AO,AQ,AL,BD,AX,AC,AA,A7,BQ,AB,CW,↓reduceIte,Option.getD_some,Bool.not_false,enP,f39,f40]
   refine CQ (fun hc => ?_) (fun hc => ?_)
   ·have hk':k < l[i].l.length:=by simpa using hc
    rw [U7 _ _ _ hk'] at hr
    simp -implicitDefEqProofs only [BB,BP,AZ,BN,A8,AY,BC,AO,AQ,AL,BD,AX,AC,AA,A7,BF,BA,BO,BZ,AB,↓reduceIte,Nat.reduceEqDiff,Option.getD_some,Bool.not_false,enP,JQ,f38,f40,DJ hk',CV ag3 hk',encI0]
    refine ER (by kernel_rfl) ?_
    simp -implicitDefEqProofs only [F7,D9,DT,EC,FH,FC,AE6,GM,F6,AO,AA,A7,CB,BO,H9,AB,List.map_cons,List.map_nil,List.append_nil,↓reduceIte,Nat.reduceEqDiff,Nat.reduceAdd,Option.getD_some,enP,f2,f6,f7,ldM gm1,ldC gc1]
    refine ⟨_,hT _ _ k _ (by omega) (by omega) hfs (by omega),?_⟩
    try simp -implicitDefEqProofs only []
    refine ⟨_,ADB G m m.crs[i] _ _ _ hcg.here (UA _ _ fun n hn=>(hfs n hn).1) (by omega) (by have:=hcg.num; omega),?_⟩
    try simp -implicitDefEqProofs only []
    refine ⟨_,TI G _ _ _,?_⟩
    try simp -implicitDefEqProofs only [DT,E8,BI,A8,AA,A7,AB,FB,↓reduceIte]
    cases hcb:countB l[i].l[k] (PW m m.crs[i] (NP (szs m m.crs[i].pts) k))
    ·simp -implicitDefEqProofs only [BB,AZ,BM,A8,CS,EG,LW,FM,DX,AY,BC,AO,AQ,AL,BD,AX,AC,AA,AU,BL,BA,↓reduceIte,Option.getD_some,Bool.not_false]
     exact ⟨trivial,trivial,by rw [hr,hcb]; rfl⟩
    ·simp -implicitDefEqProofs only [AZ,BN,A8,D8,ED,DY,AY,BC,AO,AQ,AL,BD,AX,AC,AA,A7,AU,BH,BF,BQ,AB,CZ,↓reduceIte,Nat.reduceEqDiff,Option.getD_some,Bool.not_true,Bool.not_false,enP,f40,wrap_succ (show k < 9223372036854775807 by omega)]
     exact ⟨n' - 1,by omega,k+1,by omega,f1,f2,f17,f18,f19,f6,f7,f38,f39,rfl,trivial,by rw [hr,hcb]; rfl⟩
   ·have hk' : ¬ k < l[i].l.length:=by simpa using hc
    simp -implicitDefEqProofs only [DC,DZ,JM,EP,AA,↓reduceIte,Nat.reduceEqDiff]
    exact ⟨f1,f2,f17,f18,f19,trivial,by rw [hr,List.drop_eq_nil_of_le (by omega)]; rfl⟩
  ·rintro F' H' ⟨g1,g2,g17,g18,g19,rfl,hr⟩
   simp -implicitDefEqProofs only [AZ,A8,D8,EN,ED,AY,BC,AO,AQ,AL,BD,AX,AC,AA,A7,AU,BH,BF,BQ,AB,CZ,↓reduceIte,Nat.reduceEqDiff,Option.getD_some,Bool.not_false,enP,g19,wrap_succ (show i < 9223372036854775807 by omega)]
   exact ⟨n - 1,by omega,i+1,by omega,g1,g2,g17,g18,rfl,gm1,hx1,by rw [hf,hr]; rfl⟩
  ·rintro F' H' ⟨g4,rfl,hr⟩
   simp -implicitDefEqProofs only [CS,EG,FM,CU,g4]
   exact ⟨by rw [hf,hr]; rfl,hx1⟩
 ·have hi' : ¬ i < m.crs.length:=by simpa using hc
  simp -implicitDefEqProofs only [BB,AZ,BM,DC,A8,DZ,EN,EP,CU,AY,BC,AO,AQ,AL,BD,AX,AC,AA,AU,BL,BA,↓reduceIte,Option.getD_some,Bool.not_false]
  exact ⟨by rw [hf,XK (okC m) _ _ i (by omega) (by omega)],hx⟩
def FN (m:Mo) (v:Cvr):Bool:=(FU m == 0) && KQ okP m.pts v.pts && KQ (okC m) m.crs v.crs && IB v.sam && IB v.ill
theorem ZE (n:Int):countB n true=IB n:=by unfold countB; simp
theorem VE (G:Nat→AV) (hG:GOk G) (hT:J5 G) (m:Mo) (v:Cvr) (hm:MoOk m) (hv:CvOk v) (h:Hp):PCall (En G) 66 [.agg (DU m),.agg (EF v)] h (.bool (FN m v)):=by
 refine ACalls.pure0 rfl ?_
 refine CG (H:=Hint.none) (enM G) Tryz.func66 rfl (by kernel_rfl) (by kernel_rfl) (Nat.le_of_ble_eq_true (by kernel_rfl)) ?_
 show awp _ _ _ _ _ (EU _ [.tmp 4] _)
 have gm:(h ++ [ABlk.live 2 [DU m]] ++ [ABlk.live 4 [EF v]])[h.length]? = some (.live 2 [DU m]):=DL (CX _ _)
 have gv:=CX (h ++ [ABlk.live 2 [DU m]]) (.live 4 [EF v])
 have hx : ∃ x,h ++ [ABlk.live 2 [DU m]] ++ [ABlk.live 4 [EF v]]=h ++ x:=⟨_,List.append_assoc _ _ _⟩
 simp -implicitDefEqProofs only [BB,AZ,A8,AY,BC,AO,AQ,AL,BD,AX,AC,AA,A7,AU,BL,BA,FK,BO,BR,BG,BV,↓reduceIte,Nat.reduceEqDiff,Option.getD_some,Bool.not_false,enP,bxM,bxV]
 generalize h ++ [ABlk.live 2 [DU m]] ++ [ABlk.live 4 [EF v]]=H at gm gv hx ⊢
 generalize (h ++ [ABlk.live 2 [DU m]]).length=vb at gv ⊢
 have l0:EE Tryz.prog H 26 (.ptr vb 0 0)=some (.sl v.pm 1 (v.pts.map HY)):=by rw [D6 SH gv (row:=EF v) rfl,AIR]
 have l1:EE Tryz.prog H 26 (.ptr vb 0 1)=some (.sl v.cm 1 (v.crs.map HY)):=by rw [D6 SH gv (row:=EF v) rfl,AIQ]
 have l2:EE Tryz.prog H 3 (.ptr vb 0 2)=some (.int .i64 v.sam):=by rw [D6 ag3 gv (row:=EF v) rfl,ARU]
 have l3:EE Tryz.prog H 3 (.ptr vb 0 3)=some (.int .i64 v.ill):=by rw [D6 ag3 gv (row:=EF v) rfl,ART]
 simp -implicitDefEqProofs only [AY,AO,AQ,AL,BD,AX,AC,AA,A7,CB,CE,BX,AB,List.map_cons,List.map_nil,List.append_nil,↓reduceIte,Option.getD_some,Bool.not_false,ldM gm]
 refine (WB G hG m hm _).use ?_
 simp -implicitDefEqProofs only [AY,BK,BU,CO,AO,AQ,AL,BD,AX,AC,AA,A7,AU,BH,BF,BQ,AB,EJ,↓reduceIte,Option.getD_some,Bool.not_false,enP]
 cases h1:(FU m == 0)
 ·simp -implicitDefEqProofs only [BM,A8,CU,AY,BC,BK,BU,CO,JH,AO,AQ,AL,BD,AX,AC,AA,EY,A7,AU,BL,BF,BA,CP,DV,↓reduceIte,Nat.reduceEqDiff,Option.getD_some,Bool.not_false]
  exact ⟨by unfold FN; rw [h1]; rfl,hx⟩
 have hg:=J4 (beq_iff_eq.1 h1)
 simp -implicitDefEqProofs only [BK,BU,CO,GN,AO,AQ,AL,BD,AX,AC,AA,A7,CB,BO,BJ,CE,BX,AB,List.map_cons,List.map_nil,List.append_nil,↓reduceIte,Nat.reduceEqDiff,Nat.add_zero,Option.getD_some,Bool.not_false,enP,OY,ldM gm,l0]
 refine (AOX G m v.pts v.pm _ hm hv.eachP).use ?_
 simp -implicitDefEqProofs only [AY,BK,BU,CO,AO,AQ,AL,BD,AX,AC,AA,A7,AU,BL,BF,CP,DW,↓reduceIte,Nat.reduceEqDiff,Option.getD_some,Bool.not_false]
 cases h2:KQ okP m.pts v.pts
 ·simp -implicitDefEqProofs only [BM,A8,CU,AY,BC,BK,BU,CO,JH,AO,AQ,AL,BD,AX,AC,AA,EY,A7,AU,BL,BF,BA,CP,DV,↓reduceIte,Nat.reduceEqDiff,Option.getD_some,Bool.not_false]
  exact ⟨by unfold FN; rw [h1,h2]; rfl,hx⟩
 simp -implicitDefEqProofs only [BK,BU,CO,GN,AO,AQ,AL,BD,AX,AC,AA,A7,CB,BO,BJ,CE,BX,AB,List.map_cons,List.map_nil,List.append_nil,↓reduceIte,Nat.reduceEqDiff,Nat.zero_add,Option.getD_some,Bool.not_false,enP,NS,ldM gm,l1]
 refine (AOY G hT m v.crs v.cm _ hm hg hv.eachC).use ?_
 simp -implicitDefEqProofs only [AY,BK,BU,CO,AO,AQ,AL,BD,AX,AC,AA,A7,AU,BL,BF,CP,DW,↓reduceIte,Nat.reduceEqDiff,Option.getD_some,Bool.not_false]
 cases h3:KQ (okC m) m.crs v.crs
 ·simp -implicitDefEqProofs only [BM,A8,CU,AY,BC,BK,BU,CO,JH,AO,AQ,AL,BD,AX,AC,AA,EY,A7,AU,BL,BF,BA,CP,DV,↓reduceIte,Nat.reduceEqDiff,Option.getD_some,Bool.not_false]
  exact ⟨by unfold FN; rw [h1,h2,h3]; rfl,hx⟩
 simp -implicitDefEqProofs only [BK,BU,CO,GN,AO,AQ,AL,BD,AX,AC,AA,A7,AU,CB,BL,BO,BJ,CE,BX,AB,List.map_cons,List.map_nil,List.append_nil,↓reduceIte,Nat.reduceEqDiff,Nat.zero_add,Option.getD_some,Bool.not_false,enP,YL,l2]
 refine (TI G _ _ _).use ?_
 simp -implicitDefEqProofs only [AY,BK,BU,CO,AO,AQ,AL,BD,AX,AC,AA,A7,AU,BL,BF,CP,DW,↓reduceIte,Nat.reduceEqDiff,Option.getD_some,Bool.not_false,ZE]
 cases h4:IB v.sam
 ·simp -implicitDefEqProofs only [BM,A8,CU,AY,BC,BK,BU,CO,JH,AO,AQ,AL,BD,AX,AC,AA,EY,A7,AU,BL,BA,CP,DV,↓reduceIte,Nat.reduceEqDiff,Option.getD_some,Bool.not_false]
  exact ⟨by unfold FN; rw [h1,h2,h3,h4]; rfl,hx⟩
 simp -implicitDefEqProofs only [BK,BU,CO,GN,AO,AQ,AL,BD,AX,AC,AA,A7,AU,CB,BL,BO,BJ,CE,BX,AB,List.map_cons,List.map_nil,List.append_nil,↓reduceIte,Nat.reduceEqDiff,Nat.zero_add,Option.getD_some,Bool.not_false,enP,AB3,l3]
 refine (TI G _ _ _).use ?_
 simp -implicitDefEqProofs only [BM,A8,CU,AY,BC,AO,AQ,AL,BD,AX,AC,AA,A7,AU,BL,BA,CP,DW,↓reduceIte,Nat.reduceEqDiff,Option.getD_some,Bool.not_false,ZE]
 exact ⟨by unfold FN; rw [h1,h2,h3,h4]; rfl,hx⟩
end Go.Proofs.YtocilianjfhifaaGreatDoor.Cov
/- Coverages that fit a model: the reference; no condition but the bounds on lengths. -/
set_option linter.unusedSimpArgs false
set_option maxRecDepth 8000
namespace Go.Proofs.YtocilianjfhifaaGreatDoor.Cov
open Go Go.Proofs Go.Proofs.YtocilianjfhifaaGreatDoor.Sm Go.Proofs.YtocilianjfhifaaGreatDoor.Bins Go.RowKit

/-- a model and a coverage in two blocks -/
structure TwoV (h H:Hp) (m:Mo) (v:Cvr) (vb:Nat):Prop where
 gm:H[h.length]? = some (.live 2 [DU m])
 gv:H[vb]? = some (.live 4 [EF v])
 hx : ∃ x,H=h ++ x
theorem TwoV.mk' (h:Hp) (m:Mo) (v:Cvr):TwoV h (h ++ [.live 2 [DU m]] ++ [.live 4 [EF v]]) m v (h ++ [ABlk.live 2 [DU m]]).length:=⟨DL (CX _ _),CX _ _,⟨_,List.append_assoc _ _ _⟩⟩
section
variable {h H:Hp} {m:Mo} {v:Cvr} {vb:Nat} (t:TwoV h H m v vb)
include t
theorem TwoV.m0:EE Tryz.prog H 22 (.ptr h.length 0 0)=some (.sl m.pm 6 (m.pts.map IM)):=by rw [D6 VN t.gm (row:=DU m) rfl,QK]
theorem TwoV.m1:EE Tryz.prog H 23 (.ptr h.length 0 1)=some (.sl m.cm 3 (m.crs.map H6)):=by rw [D6 YV t.gm (row:=DU m) rfl,TP]
theorem TwoV.l0:EE Tryz.prog H 26 (.ptr vb 0 0)=some (.sl v.pm 1 (v.pts.map HY)):=by rw [D6 SH t.gv (row:=EF v) rfl,AIR]
theorem TwoV.l1:EE Tryz.prog H 26 (.ptr vb 0 1)=some (.sl v.cm 1 (v.crs.map HY)):=by rw [D6 SH t.gv (row:=EF v) rfl,AIQ]
theorem TwoV.l2:EE Tryz.prog H 3 (.ptr vb 0 2)=some (.int .i64 v.sam):=by rw [D6 ag3 t.gv (row:=EF v) rfl,ARU]
theorem TwoV.l3:EE Tryz.prog H 3 (.ptr vb 0 3)=some (.int .i64 v.ill):=by rw [D6 ag3 t.gv (row:=EF v) rfl,ART]
end
/-- as the reference asks -/
theorem ACD (n:Int) (may:Bool):countB n may = !(!IB n || (decide (n > 0) && !may)):=by
 unfold countB
 cases hw:IB n
 ·rfl
 ·have h0:0≤n:=by
   unfold IB at hw; simp at hw; exact hw.1
  cases may
  ·have:(n == 0) = !decide (n > 0):=by rw [Bool.eq_iff_iff]; simp; omega
   rw [this]; cases decide (n > 0) <;> rfl
  ·cases decide (n > 0) <;> rfl
set_option maxHeartbeats 1000000 in
theorem UN (G:Nat→AV) (m:Mo) (v:Cvr) (hm:MoOk m) (hv:CvOk v) (h:Hp):PCall (En G) 39 [.agg (DU m),.agg (EF v)] h (.bool (FN m v)):=by
 refine ACalls.pure0 rfl ?_
 have hm1:=hm.np
 have hm2:=hm.nc
 refine CG (H:=Hint.none) (enM G) Tryz.func39 rfl (by kernel_rfl) (by kernel_rfl) (Nat.le_of_ble_eq_true (by kernel_rfl)) ?_
 show awp _ _ _ _ _ (EU _ [.tmp 4] _)
 have t:=TwoV.mk' h m v
 simp -implicitDefEqProofs only [BB,AZ,A8,AY,BC,AO,AQ,AL,BD,AX,AC,AA,A7,AU,BL,BA,FK,BO,BR,BG,BV,↓reduceIte,Nat.reduceEqDiff,Option.getD_some,Bool.not_false,enP,bxM,bxV]
 generalize h ++ [ABlk.live 2 [DU m]] ++ [ABlk.live 4 [EF v]]=H at t ⊢
 generalize (h ++ [ABlk.live 2 [DU m]]).length=vb at t ⊢
 have hlp:m.pts.length≠v.pts.length→KQ okP m.pts v.pts=false:=fun hne=>by
  rw [← Bool.not_eq_true]; exact fun e=>hne (OB e)
 have hlc:m.crs.length≠v.crs.length→KQ (okC m) m.crs v.crs=false:=fun hne=>by
  rw [← Bool.not_eq_true]; exact fun e=>hne (OB e)
 simp -implicitDefEqProofs only [AY,AO,AQ,AL,BD,AX,AC,AA,A7,CB,CE,BX,AB,List.map_cons,List.map_nil,List.append_nil,↓reduceIte,Option.getD_some,Bool.not_false,ldM t.gm]
 refine (PZ G m hm _).use ?_
 simp -implicitDefEqProofs only [AY,BK,BU,CO,AO,AQ,AL,BD,AX,AC,AA,A7,AU,BH,BF,BQ,AB,EQ,↓reduceIte,Option.getD_some,Bool.not_false,enP,bne]
 cases h1:(FU m == 0)
 ·simp -implicitDefEqProofs only [BB,AZ,BM,BI,A8,CS,CU,DX,AY,BC,BK,BU,CO,F5,AO,AQ,AL,BD,AX,AC,AA,EY,A7,AU,BL,BF,BA,CP,DW,↓reduceIte,Nat.reduceEqDiff,Option.getD_some,Bool.not_false]
  exact ⟨by unfold FN; rw [h1]; rfl,t.hx⟩
 have hg:=J4 (beq_iff_eq.1 h1)
 simp -implicitDefEqProofs only [AY,BK,BU,CO,EO,AO,AQ,AL,BD,AX,AC,AA,A7,AU,BL,BF,CP,DV,BO,BQ,BJ,DN,AB,EQ,↓reduceIte,Nat.reduceEqDiff,Nat.add_zero,Option.getD_some,Bool.not_true,Bool.not_false,enP,QE,IG,YF,OY,t.m0,t.l0,List.length_map,bne]
 cases h2:((v.pts.length:Int) == (m.pts.length:Int))
 ·simp -implicitDefEqProofs only [BB,AZ,BM,BI,A8,CS,CU,DX,AY,BC,BK,BU,CO,F5,AO,AQ,AL,BD,AX,AC,AA,EY,A7,AU,BL,BF,BA,CP,DW,↓reduceIte,Nat.reduceEqDiff,Option.getD_some,Bool.not_false]
  have:=hlp (by simp at h2; omega)
  exact ⟨by unfold FN; rw [this]; simp,t.hx⟩
 have h2':v.pts.length=m.pts.length:=by simp at h2; omega
 simp -implicitDefEqProofs only [AY,BK,BU,CO,EO,AO,AQ,AL,BD,AX,AC,AA,A7,AU,BL,BF,CP,DV,BO,BQ,BJ,DN,AB,EQ,↓reduceIte,Nat.reduceEqDiff,Nat.zero_add,Option.getD_some,Bool.not_true,Bool.not_false,enP,TB,IX,YF,NS,t.m1,t.l1,List.length_map,bne]
 cases h3:((v.crs.length:Int) == (m.crs.length:Int))
 ·simp -implicitDefEqProofs only [BB,AZ,BM,BI,A8,CS,CU,DX,AY,BC,BK,BU,CO,F5,AO,AQ,AL,BD,AX,AC,AA,EY,A7,AU,BL,BF,BA,CP,DW,↓reduceIte,Nat.reduceEqDiff,Option.getD_some,Bool.not_false]
  have:=hlc (by simp at h3; omega)
  exact ⟨by unfold FN; rw [this]; simp,t.hx⟩
 have h3':v.crs.length=m.crs.length:=by simp at h3; omega
 simp -implicitDefEqProofs only [BK,BU,CO,EO,AO,AQ,AL,BD,AX,AC,AA,A7,CB,BO,BJ,CE,BX,AB,List.map_cons,List.map_nil,List.append_nil,↓reduceIte,Nat.reduceEqDiff,Nat.zero_add,Option.getD_some,Bool.not_true,Bool.not_false,enP,YL,t.l2]
 refine (SS G _ _).use ?_
 simp -implicitDefEqProofs only [AY,BK,BU,CO,EO,AO,AQ,AL,BD,AX,AC,AA,A7,AU,BL,BF,CP,DV,H9,AB,FB,↓reduceIte,Nat.reduceEqDiff,Option.getD_some,Bool.not_false]
 cases h4:IB v.sam
 ·simp -implicitDefEqProofs only [BB,AZ,BM,BI,A8,CS,CU,DX,AY,BC,BK,BU,CO,F5,AO,AQ,AL,BD,AX,AC,AA,EY,A7,AU,BL,BA,CP,DW,↓reduceIte,Nat.reduceEqDiff,Option.getD_some,Bool.not_false]
  exact ⟨by unfold FN; rw [h4]; simp,t.hx⟩
 simp -implicitDefEqProofs only [BK,BU,CO,EO,AO,AQ,AL,BD,AX,AC,AA,A7,CB,BO,BJ,CE,BX,AB,List.map_cons,List.map_nil,List.append_nil,↓reduceIte,Nat.reduceEqDiff,Nat.zero_add,Option.getD_some,Bool.not_true,Bool.not_false,enP,AB3,t.l3]
 refine (SS G _ _).use ?_
 simp -implicitDefEqProofs only [BI,A8,AY,BC,BK,BU,CO,EO,AO,AQ,AL,BD,AX,AC,AA,A7,AU,BL,CP,DV,H9,AB,FB,↓reduceIte,Nat.reduceEqDiff,Option.getD_some,Bool.not_false]
 cases h5:IB v.ill
 ·simp -implicitDefEqProofs only [BB,AZ,BM,A8,CS,CU,DX,AY,BC,AO,AQ,AL,BD,AX,AC,AA,AU,BL,BA,↓reduceIte,Option.getD_some,Bool.not_false]
  exact ⟨by unfold FN; rw [h5]; simp,t.hx⟩
 have hfb:FN m v=(KQ okP m.pts v.pts && KQ (okC m) m.crs v.crs):=by unfold FN; rw [h1,h4,h5]; simp
 rw [hfb]
 simp -implicitDefEqProofs only [BB,BP,AZ,BN,A8,DY,AY,BC,AO,AQ,AL,BD,AX,AC,AU,BH,BA,Option.getD_some,Bool.not_true,Bool.not_false]
 refine F8 0 (fun F H'=>F 2 = .ptr h.length 0 0∧F 3 = .ptr vb 0 0∧H'=H∧KQ okP m.pts v.pts=true) (fun F H'=>F 4 = .bool false∧H'=H∧KQ okP m.pts v.pts=false) ?_ ?_ ?_
 ·refine C9 (fun n F H' => ∃ i,n+i=m.pts.length∧F 2 = .ptr h.length 0 0∧F 3 = .ptr vb 0 0∧F 5 = .int .i64 (i:Nat)∧H'=H∧KQ okP m.pts v.pts=KQ okP (m.pts.drop i) (v.pts.drop i)) m.pts.length ⟨0,by simp,by simp -implicitDefEqProofs only [AA,↓reduceIte,Nat.reduceEqDiff],by simp -implicitDefEqProofs only [AA,↓reduceIte,Nat.reduceEqDiff],by simp -implicitDefEqProofs only [AA,↓reduceIte]; rfl,rfl,rfl⟩ ?_
  rintro n F H' ⟨i,hi,f2,f3,f5,rfl,hf⟩
  simp -implicitDefEqProofs only [BB,AZ,BI,A8,AY,BC,AO,AQ,AL,BD,AX,AC,AA,A7,BF,BO,BQ,BJ,DN,AB,CW,↓reduceIte,Nat.reduceEqDiff,Nat.add_zero,Option.getD_some,Bool.not_false,enP,QE,IG,f2,f5,t.m0,List.length_map]
  refine CQ (fun hc => ?_) (fun hc => ?_)
  ·have hi':i < m.pts.length:=by simpa using hc
   have hil:i < v.pts.length:=by omega
   rw [VF okP m.pts v.pts i hi' hil] at hf
   have hxl:=hv.eachP _ (List.getElem_mem hil)
   simp -implicitDefEqProofs only [BB,BP,BN,A8]
   refine ER (by kernel_rfl) ?_
   simp -implicitDefEqProofs only [F7,D9,DT,E8,EC,FH,FC,IE,D5,D7,GV,BI,A8,AO,AA,A7,BO,BQ,BJ,BZ,DN,AB,EQ,↓reduceIte,Nat.reduceEqDiff,Nat.reduceAdd,Nat.add_zero,Nat.zero_add,Option.getD_some,enP,OJ,IG,QT,OY,QS,IU,IL,f2,f3,f5,t.m0,t.l0,DJ hil,DJ hi',CV LC hil,NC,CV PO hi',ML,List.length_map]
   refine CQ (fun h6 => ?_) (fun h6 => ?_)
   ·simp -implicitDefEqProofs only [BB,AZ,BM,A8,CS,EG,LW,FM,AY,BC,AO,AQ,AL,BD,AX,AC,AA,AU,BL,BA,↓reduceIte,Option.getD_some,Bool.not_false]
    have:okP m.pts[i] v.pts[i]=false:=by
     have:(v.pts[i].l.length == m.pts[i].bins.length)=false:=by
      rw [beq_eq_false_iff_ne]; intro e; simp [e] at h6
     unfold okP; rw [this]; rfl
    exact ⟨trivial,trivial,by rw [hf,this]; rfl⟩
   have hbl:v.pts[i].l.length=m.pts[i].bins.length:=by simp at h6; omega
   have hok:okP m.pts[i] v.pts[i]=PE (fun k=>kindOf m.pts[i] k == 0) 0 v.pts[i].l:=by
    unfold okP; rw [beq_iff_eq.2 hbl]; rfl
   simp -implicitDefEqProofs only [BB,BP,AZ,BN,A8,AY,BC,AO,AQ,AL,BD,AX,AC,AU,BH,BA,Option.getD_some,Bool.not_false]
   refine F8 2 (fun F' H=>F' 2 = .ptr h.length 0 0∧F' 3 = .ptr vb 0 0∧F' 5 = .int .i64 (i:Nat)∧H=H'∧okP m.pts[i] v.pts[i]=true) (fun F' H=>F' 4 = .bool false∧H=H'∧okP m.pts[i] v.pts[i]=false) ?_ ?_ ?_
   ·refine C9 (fun n F' H => ∃ k,n+k=v.pts[i].l.length∧F' 2 = .ptr h.length 0 0∧F' 3 = .ptr vb 0 0∧F' 5 = .int .i64 (i:Nat)∧F' 6 = .int .i64 (k:Nat)∧H=H'∧okP m.pts[i] v.pts[i]=PE (fun k=>kindOf m.pts[i] k == 0) k (v.pts[i].l.drop k)) v.pts[i].l.length ⟨0,by simp,by simp -implicitDefEqProofs only [AA,↓reduceIte,Nat.reduceEqDiff,f2],by simp -implicitDefEqProofs only [AA,↓reduceIte,Nat.reduceEqDiff,f3],by simp -implicitDefEqProofs only [AA,↓reduceIte,Nat.reduceEqDiff,f5],by simp -implicitDefEqProofs only [AA,↓reduceIte]; rfl,rfl,hok⟩ ?_
    clear f2 f3 f5
    rintro n' F H' ⟨k,hk,f2,f3,f5,f6,rfl,hr⟩
    simp -implicitDefEqProofs only [BB,AZ,BI,A8,AY,BC,AO,AQ,AL,BD,AX,AC,AA,A7,BF,BO,BQ,BJ,BZ,DN,AB,CW,↓reduceIte,Nat.reduceEqDiff,Nat.add_zero,Option.getD_some,Bool.not_false,enP,QT,OY,IL,f3,f5,f6,t.l0,DJ hil,CV LC hil,NC,List.length_map]
    refine CQ (fun hc => ?_) (fun hc => ?_)
    ·have hk':k < v.pts[i].l.length:=by simpa using hc
     have hkb:k < m.pts[i].bins.length:=by omega
     have hkd:kindOf m.pts[i] k=(m.pts[i].bins[k]).kind:=by unfold kindOf; rw [List.getElem?_eq_getElem hkb]
     rw [U7 _ _ _ hk',hkd,ACD] at hr
     simp -implicitDefEqProofs only [BB,BP,AZ,BN,A8,AY,BC,AO,AQ,AL,BD,AX,AC,AA,A7,CB,BF,BA,BO,BJ,BZ,CE,BX,AB,List.map_cons,List.map_nil,List.append_nil,↓reduceIte,Nat.reduceEqDiff,Nat.add_zero,Option.getD_some,Bool.not_false,enP,QT,OY,JQ,f3,f5,f6,t.l0,DJ hil,CV LC hil,NC,DJ hk',CV ag3 hk',encI0]
     refine (SS G _ _).use ?_
     simp -implicitDefEqProofs only [AY,BK,BU,CO,AO,AQ,AL,BD,AX,AC,AA,A7,BF,H9,AB,FB,↓reduceIte,Option.getD_some,Bool.not_false]
     cases hw:IB v.pts[i].l[k]
     ·simp -implicitDefEqProofs only [BB,AZ,BM,BI,A8,CS,EG,LW,FM,DX,AY,BC,BK,BU,CO,F5,QP,AO,AQ,AL,BD,AX,AC,AA,EY,A7,AU,BL,BA,CP,DW,↓reduceIte,Nat.reduceEqDiff,Option.getD_some,Bool.not_false]
      exact ⟨trivial,trivial,by rw [hr,hw]; rfl⟩
     rw [hw] at hr
     simp -implicitDefEqProofs only [BK,BU,CO,EO,AO,AQ,AL,BD,AX,AC,AA,A7,AU,BH,BF,BQ,AB,EW,↓reduceIte,Nat.reduceEqDiff,Option.getD_some,Bool.not_true,Bool.not_false,enP]
     cases hp:decide (v.pts[i].l[k] > 0)
     ·simp -implicitDefEqProofs only [AZ,BN,BI,A8,D8,ED,DY,AY,BC,BK,BU,CO,EO,JH,AO,AQ,AL,BD,AX,AC,AA,EY,A7,AU,BH,BL,BF,BA,CP,DV,BQ,AB,CZ,↓reduceIte,Nat.reduceEqDiff,Option.getD_some,Bool.not_false,enP,f6,wrap_succ (show k < 9223372036854775807 by omega)]
      exact ⟨n' - 1,by omega,k+1,by omega,f2,f3,f5,rfl,trivial,by rw [hr,hp]; rfl⟩
     rw [hp] at hr
     simp -implicitDefEqProofs only [BI,A8,AY,BC,BK,BU,CO,GN,EO,AO,AQ,AL,BD,AX,AC,AA,A7,AU,BH,BL,BF,CP,DW,DV,BO,BQ,BJ,BZ,AB,EQ,↓reduceIte,Nat.reduceEqDiff,Nat.add_zero,Nat.zero_add,Option.getD_some,Bool.not_false,enP,OJ,IG,XD,IU,MK,f2,f5,f6,t.m0,DJ hi',CV PO hi',ML,DJ hkb,CV ag3 hkb,Q3,bne]
     cases hz:(m.pts[i].bins[k].kind == 0)
     ·simp -implicitDefEqProofs only [BB,AZ,BM,A8,CS,EG,LW,FM,DX,AY,BC,AO,AQ,AL,BD,AX,AC,AA,AU,BL,BA,↓reduceIte,Option.getD_some,Bool.not_false]
      exact ⟨trivial,trivial,by rw [hr,hz]; rfl⟩
     ·simp -implicitDefEqProofs only [AZ,BN,A8,D8,ED,DY,AY,BC,AO,AQ,AL,BD,AX,AC,AA,A7,AU,BH,BF,BA,BQ,AB,CZ,↓reduceIte,Nat.reduceEqDiff,Option.getD_some,Bool.not_true,Bool.not_false,enP,f6,wrap_succ (show k < 9223372036854775807 by omega)]
      exact ⟨n' - 1,by omega,k+1,by omega,f2,f3,f5,rfl,trivial,by rw [hr,hz]; rfl⟩
    ·have hk' : ¬ k < v.pts[i].l.length:=by simpa using hc
     simp -implicitDefEqProofs only [DC,DZ,JM,EP,AA,↓reduceIte,Nat.reduceEqDiff]
     exact ⟨f2,f3,f5,trivial,by rw [hr,List.drop_eq_nil_of_le (by omega)]; rfl⟩
   ·rintro F' H' ⟨g2,g3,g5,rfl,hr⟩
    simp -implicitDefEqProofs only [AZ,A8,D8,EN,ED,AY,BC,AO,AQ,AL,BD,AX,AC,AA,A7,AU,BH,BF,BA,BQ,AB,CZ,↓reduceIte,Nat.reduceEqDiff,Option.getD_some,Bool.not_false,enP,g5,wrap_succ (show i < 9223372036854775807 by omega)]
    exact ⟨n - 1,by omega,i+1,by omega,g2,g3,rfl,trivial,by rw [hf,hr]; rfl⟩
   ·rintro F' H' ⟨g4,rfl,hr⟩
    simp -implicitDefEqProofs only [CS,EG,LW,FM,g4]
    exact ⟨trivial,trivial,by rw [hf,hr]; rfl⟩
  ·have hi' : ¬ i < m.pts.length:=by simpa using hc
   simp -implicitDefEqProofs only [DC,DZ,JM,EP,AA,↓reduceIte,Nat.reduceEqDiff]
   exact ⟨f2,f3,trivial,by rw [hf,XK okP _ _ i (by omega) (by omega)]⟩
 ·rintro F H' ⟨f2,f3,rfl,hfp⟩
  rw [hfp,Bool.true_and]
  simp -implicitDefEqProofs only [BB,BP,AZ,A8,EN,AY,BC,AO,AQ,AL,BD,AX,AC,AU,BH,BA,↓reduceIte,Option.getD_some,Bool.not_false]
  refine C9 (fun n F H => ∃ i,n+i=m.crs.length∧F 2 = .ptr h.length 0 0∧F 3 = .ptr vb 0 0∧F 8 = .int .i64 (i:Nat)∧H=H'∧KQ (okC m) m.crs v.crs=KQ (okC m) (m.crs.drop i) (v.crs.drop i)) m.crs.length ⟨0,by simp,by simp -implicitDefEqProofs only [AA,↓reduceIte,Nat.reduceEqDiff,f2],by simp -implicitDefEqProofs only [AA,↓reduceIte,Nat.reduceEqDiff,f3],by simp -implicitDefEqProofs only [AA,↓reduceIte]; rfl,rfl,rfl⟩ ?_
  clear f2 f3
  rintro n F H' ⟨i,hi,f2,f3,f8,rfl,hf⟩
  simp -implicitDefEqProofs only [BB,AZ,BI,A8,AY,BC,AO,AQ,AL,BD,AX,AC,AA,A7,BF,BO,BQ,BJ,DN,AB,CW,↓reduceIte,Nat.reduceEqDiff,Nat.zero_add,Option.getD_some,Bool.not_false,enP,TB,IX,f2,f8,t.m1,List.length_map]
  refine CQ (fun hc => ?_) (fun hc => ?_)
  ·have hi':i < m.crs.length:=by simpa using hc
   have hil:i < v.crs.length:=by omega
   rw [VF (okC m) m.crs v.crs i hi' hil] at hf
   have hxl:=hv.eachC _ (List.getElem_mem hil)
   have hcg:=hg.crs _ (List.getElem_mem hi')
   have hfs:=hg.full.szs hcg.here
   have htwo:=hcg.two
   have hfour:=hcg.four
   have hpr:=hcg.prod
   have hnum:=hcg.num
   have hmin:min (FY (szs m m.crs[i].pts):Int) 1000=(FY (szs m m.crs[i].pts):Int):=by omega
   simp -implicitDefEqProofs only [BB,BP,BN,A8]
   refine ER (by kernel_rfl) ?_
   simp -implicitDefEqProofs only [F7,D9,DT,EC,FH,FC,IE,D5,D7,GV,GM,F6,AO,AA,A7,CB,BO,BQ,BJ,BZ,DN,AB,List.map_cons,List.map_nil,List.append_nil,↓reduceIte,Nat.reduceEqDiff,Nat.reduceAdd,Nat.zero_add,Option.getD_some,enP,RF,IX,QT,NS,IL,f2,f3,f8,t.m1,t.l1,ldM t.gm,DJ hil,DJ hi',CV LC hil,NC,FD ACQ X7 KG hi',List.length_map]
   refine ⟨_,YP G m m.crs[i] _ hcg.here hg.full (by omega),?_⟩
   rw [hmin]
   try simp -implicitDefEqProofs only [DT,E8,BI,A8,AA,A7,AB,EQ,↓reduceIte]
   refine CQ (fun h6 => ?_) (fun h6 => ?_)
   ·simp -implicitDefEqProofs only [BB,AZ,BM,A8,CS,EG,FM,CU,AY,BC,AO,AQ,AL,BD,AX,AC,AA,AU,BL,BA,↓reduceIte,Option.getD_some,Bool.not_false]
    have:okC m m.crs[i] v.crs[i]=false:=by
     have:(v.crs[i].l.length == FY (szs m m.crs[i].pts))=false:=by
      rw [beq_eq_false_iff_ne]; intro e; simp [e] at h6
     unfold okC; rw [this]; rfl
    exact ⟨by rw [hf,this]; rfl,t.hx⟩
   have hbl:v.crs[i].l.length=FY (szs m m.crs[i].pts):=by simp at h6; omega
   have hok:okC m m.crs[i] v.crs[i]=PE (fun k=>PW m m.crs[i] (NP (szs m m.crs[i].pts) k)) 0 v.crs[i].l:=by
    unfold okC; rw [beq_iff_eq.2 hbl]; rfl
   simp -implicitDefEqProofs only [BB,BP,AZ,BN,A8,AY,BC,AO,AQ,AL,BD,AX,AC,AU,BH,BA,Option.getD_some,Bool.not_false]
   refine F8 6 (fun F' H=>F' 2 = .ptr h.length 0 0∧F' 3 = .ptr vb 0 0∧F' 8 = .int .i64 (i:Nat)∧H=H'∧okC m m.crs[i] v.crs[i]=true) (fun F' H=>F' 4 = .bool false∧H=H'∧okC m m.crs[i] v.crs[i]=false) ?_ ?_ ?_
   ·refine C9 (fun n F' H => ∃ k,n+k=v.crs[i].l.length∧F' 2 = .ptr h.length 0 0∧F' 3 = .ptr vb 0 0∧F' 8 = .int .i64 (i:Nat)∧F' 9 = .int .i64 (k:Nat)∧H=H'∧okC m m.crs[i] v.crs[i]=PE (fun k=>PW m m.crs[i] (NP (szs m m.crs[i].pts) k)) k (v.crs[i].l.drop k)) v.crs[i].l.length ⟨0,by simp,by simp -implicitDefEqProofs only [AA,↓reduceIte,Nat.reduceEqDiff,f2],by simp -implicitDefEqProofs only [AA,↓reduceIte,Nat.reduceEqDiff,f3],by simp -implicitDefEqProofs only [AA,↓reduceIte,Nat.reduceEqDiff,f8],by simp -implicitDefEqProofs only [AA,↓reduceIte]; rfl,rfl,hok⟩ ?_
    clear f2 f3 f8
    rintro n' F H' ⟨k,hk,f2,f3,f8,f9,rfl,hr⟩
    simp -implicitDefEqProofs only [BB,AZ,BI,A8,AY,BC,AO,AQ,AL,BD,AX,AC,AA,A7,BF,BO,BQ,BJ,BZ,DN,AB,CW,↓reduceIte,Nat.reduceEqDiff,Nat.zero_add,Option.getD_some,Bool.not_false,enP,QT,NS,IL,f3,f8,f9,t.l1,DJ hil,CV LC hil,NC,List.length_map]
    refine CQ (fun hc => ?_) (fun hc => ?_)
    ·have hk':k < v.crs[i].l.length:=by simpa using hc
     rw [U7 _ _ _ hk',ACD] at hr
     simp -implicitDefEqProofs only [BB,BP,AZ,BN,A8,AY,BC,AO,AQ,AL,BD,AX,AC,AA,A7,BF,BA,BO,BJ,BZ,AB,↓reduceIte,Nat.reduceEqDiff,Nat.zero_add,Option.getD_some,Bool.not_false,enP,QT,NS,JQ,f3,f8,f9,t.l1,DJ hil,CV LC hil,NC,DJ hk',CV ag3 hk',encI0]
     refine ER (by kernel_rfl) ?_
     simp -implicitDefEqProofs only [F7,D9,DT,EC,FH,AE6,GM,F6,AO,AA,A7,CB,H9,List.map_cons,List.map_nil,List.append_nil,↓reduceIte,Nat.reduceAdd,Option.getD_some]
     refine ⟨_,SS G _ _,?_⟩
     try simp -implicitDefEqProofs only [F7,D9,DT,EC,FQ,GR,FH,CO,AO,AA,A7,AB,FB,↓reduceIte,Nat.reduceAdd,Option.getD_some]
     cases hw:IB v.crs[i].l[k]
     ·simp -implicitDefEqProofs only [F7,D9,DT,E8,EC,FQ,GR,AC0,AYA,I4,BB,AZ,BM,BI,A8,CS,EG,LW,FM,DX,AY,BC,CO,AO,AQ,AL,BD,AX,AC,AA,EY,A7,AU,BL,BA,CP,DW,↓reduceIte,Nat.reduceEqDiff,Nat.reduceAdd,Option.getD_some,Bool.not_false]
      exact ⟨trivial,trivial,by rw [hr,hw]; rfl⟩
     rw [hw] at hr
     simp -implicitDefEqProofs only [F7,D9,DT,FQ,GR,QO,FH,IE,CO,AO,AA,A7,AU,BH,BQ,AB,EW,↓reduceIte,Nat.reduceEqDiff,Nat.reduceAdd,Option.getD_some,Bool.not_true,enP]
     cases hp:decide (v.crs[i].l[k] > 0)
     ·simp -implicitDefEqProofs only [F7,D9,DT,E8,EC,FQ,GR,QO,ACZ,I4,AZ,BN,BI,A8,D8,ED,DY,AY,BC,CO,AO,AQ,AL,BD,AX,AC,AA,EY,A7,AU,BH,BL,BF,BA,CP,DV,BQ,AB,CZ,↓reduceIte,Nat.reduceEqDiff,Nat.reduceAdd,Option.getD_some,Bool.not_false,enP,f9,wrap_succ (show k < 9223372036854775807 by omega)]
      exact ⟨n' - 1,by omega,k+1,by omega,f2,f3,f8,rfl,trivial,by rw [hr,hp]; rfl⟩
     rw [hp] at hr
     simp -implicitDefEqProofs only [F7,D9,DT,FQ,GR,SL,FH,FC,AE6,D5,D7,GM,F6,CO,AO,AA,A7,CB,BO,H9,BJ,BZ,AB,List.map_cons,List.map_nil,List.append_nil,↓reduceIte,Nat.reduceEqDiff,Nat.reduceAdd,Nat.zero_add,Option.getD_some,enP,RF,IX,f2,f8,f9,t.m1,ldM t.gm,DJ hi',FD ACQ X7 KG hi']
     refine ⟨_,ANU G m m.crs[i] k _ hcg.here hg.full (by omega) (by omega) (by omega),?_⟩
     try simp -implicitDefEqProofs only []
     refine ⟨_,AK5 G m m.crs[i] _ _ _ hcg.here (UA _ _ fun n hn=>(hfs n hn).1) (by omega) (by omega),?_⟩
     try simp -implicitDefEqProofs only [F7,D9,DT,E8,EC,FQ,GR,QO,I4,BI,A8,CO,AO,AA,A7,AU,BL,CP,DW,DV,AB,FB,↓reduceIte,Nat.reduceEqDiff,Nat.reduceAdd,Option.getD_some]
     cases hz:PW m m.crs[i] (NP (szs m m.crs[i].pts) k)
     ·simp -implicitDefEqProofs only [BB,AZ,BM,A8,CS,EG,LW,FM,DX,AY,BC,AO,AQ,AL,BD,AX,AC,AA,AU,BL,BA,↓reduceIte,Option.getD_some,Bool.not_false]
      exact ⟨trivial,trivial,by rw [hr,hz]; rfl⟩
     ·simp -implicitDefEqProofs only [AZ,BN,A8,D8,ED,DY,AY,BC,AO,AQ,AL,BD,AX,AC,AA,A7,AU,BH,BF,BA,BQ,AB,CZ,↓reduceIte,Nat.reduceEqDiff,Option.getD_some,Bool.not_true,Bool.not_false,enP,f9,wrap_succ (show k < 9223372036854775807 by omega)]
      exact ⟨n' - 1,by omega,k+1,by omega,f2,f3,f8,rfl,trivial,by rw [hr,hz]; rfl⟩
    ·have hk' : ¬ k < v.crs[i].l.length:=by simpa using hc
     simp -implicitDefEqProofs only [DC,DZ,JM,EP,AA,↓reduceIte,Nat.reduceEqDiff]
     exact ⟨f2,f3,f8,trivial,by rw [hr,List.drop_eq_nil_of_le (by omega)]; rfl⟩
   ·rintro F' H' ⟨g2,g3,g8,rfl,hr⟩
    simp -implicitDefEqProofs only [AZ,A8,D8,EN,ED,AY,BC,AO,AQ,AL,BD,AX,AC,AA,A7,AU,BH,BF,BA,BQ,AB,CZ,↓reduceIte,Nat.reduceEqDiff,Option.getD_some,Bool.not_false,enP,g8,wrap_succ (show i < 9223372036854775807 by omega)]
    exact ⟨n - 1,by omega,i+1,by omega,g2,g3,rfl,trivial,by rw [hf,hr]; rfl⟩
   ·rintro F' H' ⟨g4,rfl,hr⟩
    simp -implicitDefEqProofs only [CS,EG,FM,CU,g4]
    exact ⟨by rw [hf,hr]; rfl,t.hx⟩
  ·have hi' : ¬ i < m.crs.length:=by simpa using hc
   simp -implicitDefEqProofs only [BB,AZ,BM,DC,A8,DZ,EN,EP,CU,AY,BC,AO,AQ,AL,BD,AX,AC,AA,AU,BL,BA,↓reduceIte,Option.getD_some,Bool.not_false]
   exact ⟨by rw [hf,XK (okC m) _ _ i (by omega) (by omega)],t.hx⟩
 ·rintro F H' ⟨f4,rfl,hfp⟩
  simp -implicitDefEqProofs only [CS,EG,CU,f4]
  exact ⟨by rw [hfp]; rfl,t.hx⟩
end Go.Proofs.YtocilianjfhifaaGreatDoor.Cov
/- Combinations of layer 47: the program; no condition but the bounds on lengths. -/
set_option linter.unusedSimpArgs false
set_option maxRecDepth 8000
namespace Go.Proofs.YtocilianjfhifaaGreatDoor.Cov
open Go Go.Proofs Go.Proofs.YtocilianjfhifaaGreatDoor.Sm Go.Proofs.YtocilianjfhifaaGreatDoor.Bins Go.RowKit

theorem AKU (G:Nat→AV) (xs:List Int) (m:SM) (fid:FuncId) (caps:List AV) (p:Int→Bool) (h:Hp) (hl:xs.length≤1099511627776)
  (hf : ∀ r,PCall (En G) fid (.int .i64 r :: caps) h (.bool (p r))) :
  PCall (En G) 204 [.sl m 1 (xs.map encI),.fn (.func fid) [] caps] h (.int .i64 (match xs.findIdx? p with | some i=>(i:Int) | none => -1)):=by
 refine CG (H:=Hint.none) (enM G) Tryz.func204 rfl (by kernel_rfl) (by kernel_rfl) (Nat.le_of_ble_eq_true (by kernel_rfl)) ?_
 show awp _ _ _ _ _ (EU _ [.tmp 4] _)
 simp -implicitDefEqProofs only [BB,BP,AZ,A8,AY,BC,AO,AQ,AL,BD,AX,AC,AA,A7,AU,BH,BF,BA,DN,AB,BG,↓reduceIte,Nat.reduceEqDiff,Option.getD_some,Bool.not_false,enP,IL,List.length_map]
 refine C9 (fun n F H => ∃ k,n+k=xs.length∧F 0 = .sl m 1 (xs.map encI)∧F 1 = .fn (.func fid) [] caps∧F 7 = .int .i64 xs.length∧F 8 = .int .i64 (k:Nat)∧H=h∧(xs.take k).all (fun r => !p r)=true) xs.length ⟨0,by simp,rfl,rfl,rfl,rfl,rfl,rfl⟩ ?_
 rintro n F H ⟨k,hk,f0,f1,f7,f8,rfl,hin⟩
 simp -implicitDefEqProofs only [BB,AZ,BI,A8,AY,BC,AO,AQ,AL,BD,AX,AC,AA,A7,BQ,AB,CW,↓reduceIte,Option.getD_some,Bool.not_false,enP,f0,f1,f7,f8,List.length_map]
 refine CQ (fun hc => ?_) (fun hc => ?_)
 ·have hc':k < xs.length:=by simpa using hc
  simp -implicitDefEqProofs only [BB,BP,AZ,BN,A8,AY,BC,AO,AQ,AL,BD,AX,AC,AA,A7,BF,BA,BO,BZ,CE,BX,AB,List.map_cons,List.map_nil,List.nil_append,List.cons_append,↓reduceIte,Nat.reduceEqDiff,Option.getD_some,Bool.not_false,enP,JQ,f0,f1,f7,f8,DJ hc',CV ag3 hc',encI0]
  refine (hf _).use ?_
  simp -implicitDefEqProofs only [BI,A8,BC,AC,AA,A7,↓reduceIte]
  refine CQ (fun hb => ?_) (fun hb => ?_)
  ·simp -implicitDefEqProofs only [BB,AZ,BM,A8,CS,EG,FM,CU,AY,BC,AO,AQ,AL,BD,AX,AC,AA,A7,BF,BA,↓reduceIte,Nat.reduceEqDiff,Option.getD_some,Bool.not_false]
   refine ⟨?_,trivial⟩
   rw [List.findIdx?_eq_some_iff_getElem.2 ⟨hc',hb,fun j hj=>by
    rw [List.all_eq_true] at hin
    have:=hin xs[j] (by rw [List.mem_take_iff_getElem]; exact ⟨j,by omega,rfl⟩)
    simpa using this⟩]
  ·simp -implicitDefEqProofs only [AZ,BN,A8,D8,ED,AY,BC,AO,AQ,AL,BD,AX,AC,AA,A7,AU,BH,BF,BQ,AB,CZ,↓reduceIte,Nat.reduceEqDiff,Option.getD_some,Bool.not_false,enP,f8,wrap_succ (show k < 9223372036854775807 by omega)]
   refine ⟨n - 1,by omega,k+1,by omega,f0,f1,f7,rfl,trivial,?_⟩
   rw [List.take_succ_eq_append_getElem hc',List.all_append,hin]
   simp only [List.all_cons,List.all_nil,hb]; rfl
 ·have hc' : ¬ k < xs.length:=by simpa using hc
  simp -implicitDefEqProofs only [BB,AZ,BM,DC,A8,DZ,EN,EP,CU,AY,BC,AO,AQ,AL,BD,AX,AC,AA,AU,BH,BA,↓reduceIte,Option.getD_some,Bool.not_false]
  refine ⟨?_,trivial⟩
  rw [List.take_of_length_le (by omega)] at hin
  rw [List.findIdx?_eq_none_iff.2 (by simpa using hin)]

theorem ADM (G:Nat→AV) (xs:List Int) (m:SM) (fid:FuncId) (caps:List AV) (p:Int→Bool) (h:Hp) (hl:xs.length≤1099511627776)
  (hf : ∀ r,PCall (En G) fid (.int .i64 r :: caps) h (.bool (p r))) :
  PCall (En G) 155 [.sl m 1 (xs.map encI),.fn (.func fid) [] caps] h (.bool (xs.any p)):=by
 refine CG (H:=Hint.none) (enM G) Tryz.func155 rfl (by kernel_rfl) (by kernel_rfl) (Nat.le_of_ble_eq_true (by kernel_rfl)) ?_
 show awp _ _ _ _ _ (EU _ [.tmp 4] _)
 simp -implicitDefEqProofs only [BB,AZ,A8,AY,BC,AO,AQ,AL,BD,AX,AC,AA,A7,AU,CB,BL,BF,BA,CE,BX,BG,BV,List.map_cons,List.map_nil,List.append_nil,↓reduceIte,Nat.reduceEqDiff,Option.getD_some,Bool.not_false,enP]
 refine (AKU G xs m fid caps p h hl hf).use ?_
 simp -implicitDefEqProofs only [BM,A8,CU,AY,BC,AO,AQ,AL,BD,AX,AC,AA,A7,AU,BH,BA,BQ,AB,G7,↓reduceIte,Option.getD_some,Bool.not_false,enP]
 refine ⟨?_,trivial⟩
 cases hx:xs.findIdx? p with
 | some i =>
   obtain ⟨h1,h2,_⟩:=List.findIdx?_eq_some_iff_getElem.1 hx
   have:xs.any p=true:=List.any_eq_true.2 ⟨xs[i],by simp,h2⟩
   simp [this]
 | none =>
   have:xs.any p=false:=by
    rw [List.findIdx?_eq_none_iff] at hx
    rw [List.any_eq_false]; intro x hx2; simp [hx x hx2]
   simp [this]
theorem AFO {h:Hp} {b:Nat} {m:Mo} (hb:h[b]? = some (.live 2 [DU m])):EE Tryz.prog h 22 (.ptr b 0 0)=some (.sl m.pm 6 (m.pts.map IM)):=by rw [D6 VN hb (row:=DU m) rfl,QK]
theorem AC8 {h:Hp} {b:Nat} {m:Mo} (hb:h[b]? = some (.live 2 [DU m])):EE Tryz.prog h 23 (.ptr b 0 1)=some (.sl m.cm 3 (m.crs.map H6)):=by rw [D6 YV hb (row:=DU m) rfl,TP]
theorem AKI (G:Nat→AV) (m:Mo) (b:Nat) (p:Int) (h:Hp) (hb:h[b]? = some (.live 2 [DU m])):PCall (En G) 224 [.int .i64 p,.ptr b 0 0] h (.bool (decide (p < 0) || decide (p≥(m.pts.length:Int)))):=by
 refine CG (H:=Hint.none) (enM G) Tryz.func224 rfl (by kernel_rfl) (by kernel_rfl) (Nat.le_of_ble_eq_true (by kernel_rfl)) ?_
 show awp _ _ _ _ _ (EU _ [.tmp 3] _)
 simp -implicitDefEqProofs only [BB,AZ,A8,AY,BC,BK,BU,CO,AO,AQ,AL,BD,AX,AC,AA,A7,AU,BH,BL,BF,BA,BQ,AB,CW,BG,↓reduceIte,Nat.reduceEqDiff,Option.getD_some,Bool.not_false,enP]
 cases ha:decide (p < 0)
 ·simp -implicitDefEqProofs only [Bool.false_or,BM,A8,CU,AY,BC,BK,BU,CO,EO,AO,AQ,AL,BD,AX,AC,AA,A7,AU,BL,BF,BA,CP,DV,BO,BQ,BJ,DN,AB,G7,BG,BV,↓reduceIte,Nat.reduceEqDiff,Nat.add_zero,Option.getD_some,Bool.not_false,enP,QE,IG,AFO hb,List.length_map]
  exact ⟨by simp,trivial⟩
 ·simp -implicitDefEqProofs only [Bool.true_or,BM,A8,CU,AY,BC,BK,BU,CO,F5,AO,AQ,AL,BD,AX,AC,AA,EY,A7,AU,BL,BA,CP,DW,↓reduceIte,Nat.reduceEqDiff,Option.getD_some,Bool.not_false]
  exact ⟨by simp,trivial⟩
theorem AQ4 {m:Mo} {l:List Int} (hh:Here m l):(l.any fun p=>decide (p < 0) || decide (p≥(m.pts.length:Int)))=false:=by
 rw [List.any_eq_false]
 intro p hp
 have:=hh p hp
 simp; omega
theorem Y4 (G:Nat→AV) (m:Mo) (i:Nat) (hi:i < m.crs.length) (hg:CrGood m m.crs[i]) (h:Hp):PCall (En G) 184 [.agg (DU m),.int .i64 (i:Int)] h (.bool true):=by
 refine ACalls.pure0 rfl ?_
 have hfour:=hg.four
 refine CG (H:=Hint.none) (enM G) Tryz.func184 rfl (by kernel_rfl) (by kernel_rfl) (Nat.le_of_ble_eq_true (by kernel_rfl)) ?_
 show awp _ _ _ _ _ (EU _ [.tmp 4] _)
 have d0:decide ((i:Int) < 0)=false:=by simp
 have d1:decide ((i:Int)≥(m.crs.length:Int))=false:=by simp; omega
 simp -implicitDefEqProofs only [BB,AZ,BN,BI,A8,DY,AY,BC,BK,BU,CO,EO,AO,AQ,AL,BD,AX,AC,AA,A7,AU,CB,BH,BL,BF,BA,CP,DV,FK,BO,BQ,LZ,BJ,BZ,DN,CE,BX,BR,AB,CW,G7,BG,BV,List.map_cons,List.map_nil,List.append_nil,↓reduceIte,Nat.reduceEqDiff,Nat.zero_add,Option.getD_some,Bool.not_false,enP,RF,TB,IX,JJ,bxM,d0,DI YV,TP,List.length_map,d1,DJ hi,CV LC hi,TQ]
 refine (ADM G m.crs[i].pts m.crs[i].pm 224 _ _ _ (by omega) fun r=>AKI G m _ r _ (CX _ _)).use ?_
 simp -implicitDefEqProofs only [BM,A8,CU,AY,BC,AO,AQ,AL,BD,AX,AC,AA,A7,BA,H9,AB,FB,↓reduceIte,Option.getD_some,Bool.not_false,AQ4 hg.here]
 exact ⟨trivial,_,rfl⟩
theorem TJ (G:Nat→AV) (m:Mo) (i:Nat) (hi:i < m.crs.length) (hg:CrGood m m.crs[i]) (h:Hp):PCall (En G) 185 [.agg (DU m),.int .i64 (i:Int)] h (.sl .any 1 ((szs m m.crs[i].pts).map FI)):=by
 have hfour:=hg.four
 have htwo:=hg.two
 have hh:=hg.here
 have hp:PCall (En G) 185 [.agg (DU m),.int .i64 (i:Int)] h (.sl (nm (szs m m.crs[i].pts)) 1 ((szs m m.crs[i].pts).map FI)):=by
  refine MS AOS ?_
  refine CG (H:=Hint.none) (enM G) Tryz.func185 rfl (by kernel_rfl) (by kernel_rfl) (Nat.le_of_ble_eq_true (by kernel_rfl)) ?_
  show awp _ _ _ _ _ (EU _ [.tmp 4] _)
  simp -implicitDefEqProofs only [BB,BP,AZ,A8,AY,BC,AO,AQ,AL,BD,AX,AC,AA,A7,AU,BH,FV,BF,BA,FK,BO,BJ,BZ,DN,BR,AB,BG,BV,↓reduceIte,Nat.reduceEqDiff,Nat.zero_add,Option.getD_some,Bool.not_false,enP,RF,IX,IL,JJ,bxM,DI YV,TP,DJ hi,CV LC hi,TQ,List.length_map]
  refine C9 (fun n F H => ∃ k,n+k=m.crs[i].pts.length∧F 2 = .ptr h.length 0 0∧F 13 = .sl m.crs[i].pm 1 (m.crs[i].pts.map encI)∧F 14 = .int .i64 m.crs[i].pts.length∧F 15 = .int .i64 (k:Nat)∧H[h.length]? = some (.live 2 [DU m])∧ext h H∧(∀ b,isB (F 5) b→h.length < b)∧outG 1 FI h (szs m (m.crs[i].pts.take k)) (F 5) H) m.crs[i].pts.length ⟨0,by simp,by simp -implicitDefEqProofs only [AA,↓reduceIte,Nat.reduceEqDiff],by simp -implicitDefEqProofs only [AA,↓reduceIte,Nat.reduceEqDiff],by simp -implicitDefEqProofs only [AA,↓reduceIte,Nat.reduceEqDiff],by simp -implicitDefEqProofs only [AA,↓reduceIte]; rfl,CX _ _,(ext.rfl' h).app _,fun b hb=>hb.elim,outG.nil _ _ _ _⟩ ?_
  rintro n F H ⟨k,hk,f2,f13,f14,f15,hb,he,hlt,ho⟩
  simp -implicitDefEqProofs only [BB,AZ,BI,A8,AY,BC,AO,AQ,AL,BD,AX,AC,AA,A7,BQ,AB,CW,↓reduceIte,Option.getD_some,Bool.not_false,enP,f14,f15]
  refine CQ (fun hc => ?_) (fun hc => ?_)
  ·have hk':k < m.crs[i].pts.length:=by simpa using hc
   obtain ⟨s,ls⟩:=hh.ld hk' H
   have hzl:(szs m (m.crs[i].pts.take k)).length < 8388608:=by unfold szs; simp; omega
   obtain ⟨v',H',ha,ho',hkeep,he',hle,hb'⟩:=ho.append QB sz3 X6 WN (by omega) hzl he (II m m.crs[i].pts[k]).length
   simp -implicitDefEqProofs only [FP,FZ,BB,BP,AZ,BN,A8,AY,BC,AO,AQ,AL,BD,AX,AC,AA,A7,BF,BA,ES,BO,BJ,BZ,DN,GU,BR,AB,↓reduceIte,Nat.reduceEqDiff,Nat.add_zero,Nat.zero_add,Option.getD_some,Bool.not_false,enP,OJ,IG,QS,IU,JQ,f2,f13,f15,DJ hk',CV ag3 hk',encI0,AFO hb,hh.ix hk',ls,List.length_map,ACI]
   refine F9 (v:=v') (h:=H') (by rw [show [[AV.int .i64 ((II m m.crs[i].pts[k]).length:Int)]] = [FI (II m m.crs[i].pts[k]).length] from rfl,ha]) ?_
   simp -implicitDefEqProofs only [AZ,A8,D8,ED,AY,BC,AO,AQ,AL,BD,AX,AC,AA,A7,AU,BH,BF,BA,BQ,AB,CZ,↓reduceIte,Nat.reduceEqDiff,Option.getD_some,Bool.not_false,enP,f15,wrap_succ (show k < 9223372036854775807 by omega)]
   refine ⟨n - 1,by omega,k+1,by omega,f2,f13,f14,rfl,hkeep _ _ hb (fun e=>by have:=hlt _ e; omega),he',fun b hbb => ?_,?_⟩
   ·have:=hb' b hbb; have:=CJ hb; omega
   ·rw [AG3 m m.crs[i].pts k hk']; exact ho'
  ·have hk' : ¬ k < m.crs[i].pts.length:=by simpa using hc
   rw [List.take_of_length_le (by omega)] at ho
   simp -implicitDefEqProofs only [BB,AZ,BM,DC,A8,DZ,EN,EP,CU,AY,BC,AO,AQ,AL,BD,AX,AC,AA,A7,BF,BA,↓reduceIte,Nat.reduceEqDiff,Option.getD_some,Bool.not_false]
   exact ⟨he,ho⟩
 have hnm:nm (szs m m.crs[i].pts)=SM.any:=by
  have:=J3 m m.crs[i].pts
  cases hx:szs m m.crs[i].pts with
  | nil=>rw [hx] at this; simp at this; omega
  | cons a l=>rfl
 rw [hnm] at hp
 exact hp
theorem Y7 (G:Nat→AV) (m:Mo) (i:Nat) (hi:i < m.crs.length) (hg:CrGood m m.crs[i]) (hf:Full m) (h:Hp):PCall (En G) 139 [.agg (DU m),.int .i64 (i:Int)] h (.int .i64 (FY (szs m m.crs[i].pts))):=by
 refine ACalls.pure0 rfl ?_
 have hfour:=hg.four
 have hs:=hf.szs hg.here
 have hsl:=J3 m m.crs[i].pts
 have hx : ∃ x,h ++ [ABlk.live 2 [DU m]]=h ++ x:=⟨_,rfl⟩
 refine CG (H:=Hint.none) (enM G) Tryz.func139 rfl (by kernel_rfl) (by kernel_rfl) (Nat.le_of_ble_eq_true (by kernel_rfl)) ?_
 show awp _ _ _ _ _ (EU _ [.tmp 4] _)
 simp -implicitDefEqProofs only [BB,AZ,A8,AY,BC,AO,AQ,AL,BD,AX,AC,AA,A7,AU,CB,BH,BF,BA,FK,BO,CE,BX,BR,AB,BG,BV,List.map_cons,List.map_nil,List.append_nil,↓reduceIte,Nat.reduceEqDiff,Option.getD_some,Bool.not_false,enP,bxM,ldM (CX h (.live 2 [DU m]))]
 refine (Y4 G m i hi hg _).use ?_
 simp -implicitDefEqProofs only [BB,AZ,BN,BI,A8,DY,AY,BC,AO,AQ,AL,BD,AX,AC,AA,A7,AU,CB,BH,BF,BA,BO,H9,CE,BX,AB,FB,BG,BV,List.map_cons,List.map_nil,List.append_nil,↓reduceIte,Nat.reduceEqDiff,Option.getD_some,Bool.not_true,Bool.not_false,enP,ldM (CX h (.live 2 [DU m]))]
 refine (TJ G m i hi hg _).use ?_
 simp -implicitDefEqProofs only [BP,A8,AY,BC,AO,AQ,AL,BD,AX,AC,AA,A7,AU,BH,BF,DN,AB,↓reduceIte,Option.getD_some,Bool.not_false,enP,IL,List.length_map]
 generalize szs m m.crs[i].pts=l at hs hsl ⊢
 have hp : ∀ k,FY (l.take k)≤16777216:=fun k=>by
  have:=AA8 (l.take k) 4 (fun n hn=>(hs n (List.mem_of_mem_take hn)).2) (by rw [List.length_take]; omega)
  simpa using this
 refine C9 (fun n F H => ∃ k,n+k=l.length∧F 5 = .int .i64 (FY (l.take k))∧F 14 = .sl .any 1 (l.map FI)∧F 15 = .int .i64 l.length∧F 16 = .int .i64 (k:Nat)∧H=h ++ [ABlk.live 2 [DU m]]) l.length ⟨0,by simp,by simp -implicitDefEqProofs only [AA,↓reduceIte,Nat.reduceEqDiff]; rfl,by simp -implicitDefEqProofs only [AA,↓reduceIte,Nat.reduceEqDiff],by simp -implicitDefEqProofs only [AA,↓reduceIte,Nat.reduceEqDiff],by simp -implicitDefEqProofs only [AA,↓reduceIte]; rfl,rfl⟩ ?_
 rintro n F H ⟨k,hk,f5,f14,f15,f16,rfl⟩
 simp -implicitDefEqProofs only [BB,AZ,BI,A8,AY,BC,AO,AQ,AL,BD,AX,AC,AA,A7,BQ,AB,CW,↓reduceIte,Option.getD_some,Bool.not_false,enP,f15,f16]
 refine CQ (fun hc => ?_) (fun hc => ?_)
 ·have hk':k < l.length:=by simpa using hc
  have h1:=hp (k+1)
  rw [NQ l k hk'] at h1
  have hw:IntKind.i64.wrap ((FY (l.take k):Int) * (l[k]:Int))=((FY (l.take (k+1)):Nat):Int):=by
   rw [NQ l k hk',← Int.natCast_mul,TY (by omega)]
  simp -implicitDefEqProofs only [BB,BP,AZ,BN,A8,D8,ED,AY,BC,AO,AQ,AL,BD,AX,AC,AA,A7,AU,BH,BF,BA,BO,BQ,BZ,AB,CZ,VI,↓reduceIte,Nat.reduceEqDiff,Option.getD_some,Bool.not_false,enP,JQ,f5,f14,f16,DJ hk',CV ag3 hk',VU,hw,wrap_succ (show k < 9223372036854775807 by omega)]
  exact ⟨n - 1,by omega,k+1,by omega,rfl,trivial,f15,rfl,trivial⟩
 ·have hk' : ¬ k < l.length:=by simpa using hc
  rw [List.take_of_length_le (by omega)] at f5
  simp -implicitDefEqProofs only [BB,AZ,BM,DC,A8,DZ,EN,EP,CU,AY,BC,AO,AQ,AL,BD,AX,AC,AA,A7,BF,BA,↓reduceIte,Nat.reduceEqDiff,Option.getD_some,Bool.not_false,f5]
  exact ⟨trivial,hx⟩
/-- the number of a combination, as the machine counts -/
def ADA:List Nat→List Int→Int→Int
 | n :: ns,x :: xs,z=>ADA ns xs (IntKind.i64.wrap (IntKind.i64.wrap (z * (n:Int))+x))
 | _,_,z=>z
theorem AH7 (ns:List Nat) (z:Int):ADA ns [] z=z:=by cases ns <;> rfl
theorem ABM : ∀ {ns:List Nat} {l:List Int},LY ns l=true→∀ (k:Nat) (hk:k < l.length) (hp:k < ns.length),0≤l[k]∧l[k] < (ns[k]:Int)
 | n :: ns,b :: bs,h,k,hk,hp=>by
   simp only [LY,Bool.and_eq_true,decide_eq_true_eq] at h
   cases k with
   | zero=>exact h.1
   | succ k=>exact ABM (ns:=ns) h.2 k (by simpa using hk) (by simpa using hp)
 | [],b :: bs,h,k,hk,hp=>by simp at hp
 | _,[],h,k,hk,hp=>by simp at hk
theorem AFT (G:Nat→AV) (m:Mo) (i:Nat) (hi:i < m.crs.length) (hg:CrGood m m.crs[i]) (l:List Int) (s:SM) (hin:LY (szs m m.crs[i].pts) l=true) (h:Hp):PCall (En G) 186 [.agg (DU m),.int .i64 (i:Int),.sl s 1 (l.map encI)] h (.tup [.int .i64 (ADA (szs m m.crs[i].pts) l 0),.bool true]):=by
 have hfour:=hg.four
 have hsl:=J3 m m.crs[i].pts
 have hlen:=PH hin
 refine ACalls.pure 2 (R:=fun v H=>v = .tup [.int .i64 (ADA (szs m m.crs[i].pts) l 0),.bool true]∧∃ x,H=h ++ x) ?_ (fun v h' ⟨e,x⟩=>⟨x,by subst e; rfl⟩)
 have hx : ∃ x,h ++ [ABlk.live 2 [DU m]]=h ++ x:=⟨_,rfl⟩
 refine CG (H:=Hint.none) (enM G) Tryz.func186 rfl (by kernel_rfl) (by kernel_rfl) (Nat.le_of_ble_eq_true (by kernel_rfl)) ?_
 show awp _ _ _ _ _ (EU _ [.tmp 6,.tmp 7] _)
 simp -implicitDefEqProofs only [BB,AZ,A8,AY,BC,AO,AQ,AL,BD,AX,AC,AA,A7,AU,CB,BH,BL,BF,BA,FK,BO,CE,BX,BR,AB,BG,BV,List.map_cons,List.map_nil,List.append_nil,↓reduceIte,Nat.reduceEqDiff,Option.getD_some,Bool.not_false,enP,bxM,ldM (CX h (.live 2 [DU m]))]
 refine (Y4 G m i hi hg _).use ?_
 simp -implicitDefEqProofs only [BB,AZ,BN,BI,A8,DY,AY,BC,AO,AQ,AL,BD,AX,AC,AA,A7,CB,BF,BO,H9,CE,BX,AB,FB,BG,BV,List.map_cons,List.map_nil,List.append_nil,↓reduceIte,Nat.reduceEqDiff,Option.getD_some,Bool.not_true,Bool.not_false,enP,ldM (CX h (.live 2 [DU m]))]
 refine (TJ G m i hi hg _).use ?_
 generalize szs m m.crs[i].pts=ns at hin hsl hlen ⊢
 have hne:((l.length:Int) != (ns.length:Int))=false:=by rw [hlen]; simp
 simp -implicitDefEqProofs only [BB,BP,AZ,BN,BI,A8,DY,AY,BC,AO,AQ,AL,BD,AX,AC,AA,A7,AU,BH,BF,BA,BQ,DN,AB,EQ,BG,BV,↓reduceIte,Nat.reduceEqDiff,Option.getD_some,Bool.not_false,enP,IL,List.length_map,hne]
 refine C9 (fun n F H => ∃ k,n+k=l.length∧F 8 = .sl .any 1 (ns.map FI)∧(∃ z,F 9 = .int .i64 z∧ADA ns l 0=ADA (ns.drop k) (l.drop k) z)∧F 24 = .sl s 1 (l.map encI)∧F 25 = .int .i64 l.length∧F 26 = .int .i64 (k:Nat)∧H=h ++ [ABlk.live 2 [DU m]]) l.length ⟨0,by simp,by simp -implicitDefEqProofs only [AA,↓reduceIte,Nat.reduceEqDiff],⟨0,rfl,rfl⟩,by simp -implicitDefEqProofs only [AA,↓reduceIte,Nat.reduceEqDiff],by simp -implicitDefEqProofs only [AA,↓reduceIte,Nat.reduceEqDiff],by simp -implicitDefEqProofs only [AA,↓reduceIte]; rfl,rfl⟩ ?_
 rintro n F H ⟨k,hk,f8,⟨z,f9,hz⟩,f24,f25,f26,rfl⟩
 simp -implicitDefEqProofs only [BB,AZ,BI,A8,AY,BC,AO,AQ,AL,BD,AX,AC,AA,A7,BQ,AB,CW,↓reduceIte,Option.getD_some,Bool.not_false,enP,f25,f26]
 refine CQ (fun hc => ?_) (fun hc => ?_)
 ·have hk':k < l.length:=by simpa using hc
  have hkn:k < ns.length:=by omega
  obtain ⟨h0,h1⟩:=ABM hin k hk' hkn
  have d0:decide (l[k] < 0)=false:=by simp; omega
  have d1:decide (l[k]≥(ns[k]:Int))=false:=by simp; omega
  rw [List.drop_eq_getElem_cons hk',List.drop_eq_getElem_cons hkn] at hz
  simp -implicitDefEqProofs only [BB,BP,AZ,BN,BI,A8,D8,ED,DY,AY,BC,BK,BU,CO,EO,AO,AQ,AL,BD,AX,AC,AA,A7,AU,BH,BL,BF,BA,CP,DV,BO,BQ,BZ,AB,CZ,VI,CW,G7,↓reduceIte,Nat.reduceEqDiff,Option.getD_some,Bool.not_false,enP,JQ,f8,f9,f24,f26,DJ hk',CV ag3 hk',encI0,d0,DJ hkn,CV ag3 hkn,VU,d1,wrap_succ (show k < 9223372036854775807 by omega)]
  exact ⟨n - 1,by omega,k+1,by omega,trivial,⟨_,rfl,hz⟩,trivial,f25,rfl,trivial⟩
 ·have hk' : ¬ k < l.length:=by simpa using hc
  rw [List.drop_eq_nil_of_le (show l.length≤k by omega),AH7] at hz
  simp -implicitDefEqProofs only [BB,AZ,BM,DC,A8,DZ,EN,EP,IV,AY,BC,AO,AQ,AL,BD,AX,AC,AA,A7,AU,BL,BF,BA,↓reduceIte,Nat.reduceEqDiff,Option.getD_some,Bool.not_false,f9,hz]
  exact ⟨trivial,hx⟩
end Go.Proofs.YtocilianjfhifaaGreatDoor.Cov
/- Tuple and Excluded of layer 47: the program; no condition but the bounds on lengths. -/
set_option linter.unusedSimpArgs false
set_option maxRecDepth 8000
namespace Go.Proofs.YtocilianjfhifaaGreatDoor.Cov
open Go Go.Proofs Go.Proofs.YtocilianjfhifaaGreatDoor.Sm Go.Proofs.YtocilianjfhifaaGreatDoor.Bins Go.RowKit

theorem A0R {H:Hp} {o n:Nat} {rows ys:List (List AV)} {s:SM} (ho:H[o]? = some (.live 1 rows)) (hr:rows.length=n) (hy:ys.length=n):AE3 Tryz.prog H 57 (.own o 0 n) (.sl s 1 ys)=some (.int .i64 (n:Int),H.set o (.live 1 ys)):=by
 have hrs:QW rows 0 ys=ys:=by
  unfold QW
  rw [List.take_zero,List.nil_append,List.drop_eq_nil_of_le (by omega),List.append_nil]
 have h1:min (n:Int) (n:Int)=(n:Int):=by omega
 unfold AE3
 simp only [QB,sz3,KX,ho]
 rw [if_pos ⟨trivial,.inl trivial,by omega⟩]
 simp [hy,hrs,List.take_of_length_le (Nat.le_of_eq hy)]
/-- a pair of a list of the call's own and a truth value, as its caller sees it -/
theorem AD3 {E:Env} {f:FuncId} {args:List AV} {h:Hp} {ys:List Nat} {b:Bool} (hc:ACalls E f args h fun v H=>ext h H∧∃ o,h.length≤o∧v = .tup [.own o 0 ys.length,.bool b]∧H[o]? = some (.live 1 (ys.map FI))) :
  PCall E f args h (.tup [.sl .any 1 (ys.map FI),.bool b]):=by
 refine ACalls.pure 3 hc ?_
 rintro v H ⟨hex,o,ho1,rfl,ho⟩
 refine ⟨hex,?_⟩
 show AV.tup [JF h.length H 2 (.own o 0 ys.length),JF h.length H 2 (.bool b)]=_
 rw [XI AOS ho1 ho]
 rfl
theorem AFA (G:Nat→AV) (m:Mo) (i:Nat) (hi:i < m.crs.length) (hg:CrGood m m.crs[i]) (hf:Full m) (K:Nat) (hK:K < FY (szs m m.crs[i].pts)) (h:Hp):PCall (En G) 140 [.agg (DU m),.int .i64 (i:Int),.int .i64 (K:Int)] h (.tup [.sl .any 1 ((NP (szs m m.crs[i].pts) K).map encI),.bool true]):=by
 have hprod:=hg.prod
 have hs:=hf.szs hg.here
 have hsl:=J3 m m.crs[i].pts
 have hfour:=hg.four
 show PCall (En G) 140 _ h (.tup [.sl .any 1 (((tupF (szs m m.crs[i].pts) K).1.map fun n:Nat=>(n:Int)).map encI),.bool true])
 rw [← AAK]
 refine AD3 ?_
 rw [NF]
 refine CG (H:=Hint.none) (enM G) Tryz.func140 rfl (by kernel_rfl) (by kernel_rfl) (Nat.le_of_ble_eq_true (by kernel_rfl)) ?_
 show awp _ _ _ _ _ (EU _ [.tmp 6,.tmp 7] _)
 have d0:decide ((K:Int) < 0)=false:=by simp
 simp -implicitDefEqProofs only [BB,AZ,A8,AY,BC,BK,BU,CO,EO,AO,AQ,AL,BD,AX,AC,AA,A7,AU,CB,BH,BL,FV,BF,BA,FK,BO,BQ,CE,BX,BR,AB,CW,BG,BV,List.map_cons,List.map_nil,List.append_nil,↓reduceIte,Nat.reduceEqDiff,Option.getD_some,Bool.not_false,enP,bxM,d0,ldM (CX h (.live 2 [DU m]))]
 refine (Y7 G m i hi hg hf _).use ?_
 have d1:decide ((K:Int)≥((FY (szs m m.crs[i].pts):Nat):Int))=false:=by simp; omega
 simp -implicitDefEqProofs only [BB,AZ,BN,BI,A8,DY,AY,BC,BK,BU,CO,EO,AO,AQ,AL,BD,AX,AC,AA,A7,AU,CB,BL,BF,CP,DV,BO,BQ,CE,BX,AB,G7,BG,BV,List.map_cons,List.map_nil,List.append_nil,↓reduceIte,Nat.reduceEqDiff,Option.getD_some,Bool.not_false,enP,d1,ldM (CX h (.live 2 [DU m]))]
 refine (TJ G m i hi hg _).use ?_
 clear d1
 generalize szs m m.crs[i].pts=ns at hs hsl hK hprod ⊢
 have hlt:h.length≤(h ++ [ABlk.live 2 [DU m]]).length:=by simp
 have he0:ext h (h ++ [ABlk.live 2 [DU m]]):=(ext.rfl' h).app _
 generalize h ++ [ABlk.live 2 [DU m]]=H at hlt he0 ⊢
 have hcp:=A0R (s := .any) (ys:=ns.map FI) (CX H (.live 1 ((List.replicate ns.length 0).map FI))) (n:=ns.length) (by simp) (by simp)
 rw [ZZ] at hcp
 simp -implicitDefEqProofs only [BB,BP,AZ,A8,AY,BC,AO,AQ,AL,BD,AX,AC,AA,A7,AU,BH,BF,BA,BQ,JV,DN,AWU,BR,AB,KY,↓reduceIte,Nat.reduceEqDiff,Option.getD_some,Bool.not_false,enP,IL,List.length_map,AT4 H ns.length (by omega),hcp]
 rw [wrap_i64 (n:=(ns.length:Int) - 1) (by omega) (by omega)]
 refine C9 (fun n F H' => ∃ j,n=j∧j≤ns.length∧F 8 = .sl .any 1 (ns.map FI)∧F 9 = .own H.length 0 ns.length∧F 10 = .int .i64 ((j:Int) - 1)∧F 2 = .int .i64 ((tupF (ns.drop j) K).2:Nat)∧ext h H'∧H'[H.length]? = some (.live 1 ((ns.take j ++ (tupF (ns.drop j) K).1).map FI))) ns.length ⟨ns.length,rfl,Nat.le_refl _,by simp -implicitDefEqProofs only [AA,↓reduceIte,Nat.reduceEqDiff],by simp -implicitDefEqProofs only [AA,↓reduceIte,Nat.reduceEqDiff],by simp -implicitDefEqProofs only [AA,↓reduceIte],by simp -implicitDefEqProofs only [AA,BG,BV,↓reduceIte,Nat.reduceEqDiff]; rw [List.drop_eq_nil_of_le (Nat.le_refl _)]; rfl,he0.app _,?_⟩ ?_
 ·rw [List.drop_eq_nil_of_le (Nat.le_refl _),List.take_of_length_le (Nat.le_refl _)]
  simp only [tupF,List.append_nil]
  exact CX _ _
 rintro n F H' ⟨j,rfl,hj,f8,f9,f10,f2,he,ho⟩
 simp -implicitDefEqProofs only [BB,AZ,BI,A8,AY,BC,AO,AQ,AL,BD,AX,AC,AA,A7,AU,BH,BF,BQ,AB,G7,↓reduceIte,Option.getD_some,Bool.not_false,enP,f10]
 cases n with
 | zero =>
   have:decide ((((0:Nat):Int) - 1)≥0)=false:=by decide
   simp -implicitDefEqProofs only [BB,AZ,BM,DC,A8,DZ,EN,EP,IV,DY,AY,BC,AO,AQ,AL,BD,AX,AC,AA,A7,AU,BL,BF,BA,↓reduceIte,Nat.reduceEqDiff,Option.getD_some,Bool.not_false,this,f9]
   rw [List.take_zero,List.nil_append,List.drop_zero] at ho
   exact ⟨he,H.length,hlt,rfl,ho⟩
 | succ j =>
   have hd:decide ((j:Int)≥0)=true:=by simp
   have hj':j < ns.length:=by omega
   have h1:=(hs _ (List.getElem_mem hj')).1
   have e1:(((j+1:Nat):Int) - 1)=(j:Int):=by omega
   have hst:=tup_step (K:=K) hj'
   have hle:=ZY (ns.drop (j+1)) K
   generalize hr:(tupF (ns.drop (j+1)) K)=r at ho f2 hst hle
   have hrow : ∃ v,((ns.take (j+1) ++ r.1).map FI)[j]? = some [v]:=by
    refine ⟨.int .i64 ns[j],?_⟩
    rw [List.getElem?_map,List.getElem?_append_left (by simp; omega),List.getElem?_take_of_lt (by omega),List.getElem?_eq_getElem hj']
    rfl
   have hset:=AAW (f:=FI) (pre:=ns) (out:=r.1) (j:=j) (x:=r.2 % ns[j]) hj'
   simp -implicitDefEqProofs only [BB,BP,AZ,BN,A8,D8,ED,DX,AY,BC,AO,AQ,AL,BD,AX,AC,EZ,AA,A7,AU,BH,BF,BA,BO,EI,BQ,BZ,AB,DR,KY,↓reduceIte,Nat.reduceEqDiff,Nat.zero_add,Option.getD_some,Bool.not_false,enP,JQ,Option.getD_none,hd,f2,f8,f9,f10,e1,DJ hj',CV ag3 hj',VU,TD ho hj',Z7 _ _ h1,AFJ _ _ h1 (show r.2≤9223372036854775807 by omega),AJY ho hrow,hset]
   refine ⟨j,by omega,j,rfl,by omega,trivial,trivial,?_,?_,he.set hlt _,?_⟩
   ·rw [wrap_i64 (by omega) (by omega)]
   ·rw [hst]
   ·rw [hst]; exact EM ho
theorem AIO (G:Nat→AV) (l:List Int) (s:SM) (b:Nat) (r:Is) (h:Hp) (hb:h[b]? = some (.live 1 [[.sl s 1 (l.map encI)]])) (hl:l.length≤1099511627776) :
  PCall (En G) 187 [.sl r.m 1 (r.l.map encI),.ptr b 0 0] h (.bool (eqL r.l l)):=by
 refine CG (H:=Hint.none) (enM G) Tryz.func187 rfl (by kernel_rfl) (by kernel_rfl) (Nat.le_of_ble_eq_true (by kernel_rfl)) ?_
 show awp _ _ _ _ _ (EU _ [.tmp 3] _)
 simp -implicitDefEqProofs only [BB,AZ,A8,AY,BC,AO,AQ,AL,BD,AX,AC,AA,A7,AU,CB,BL,BF,BA,BO,CE,BX,AB,BG,BV,List.map_cons,List.map_nil,List.append_nil,↓reduceIte,Nat.reduceEqDiff,Option.getD_some,Bool.not_false,enP,LM LC hb]
 refine (WI G r.l l r.m s h hl).use ?_
 simp -implicitDefEqProofs only [BM,A8,CU,AY,BC,AO,AQ,AL,BD,AX,AC,AA,A7,BA,↓reduceIte,Option.getD_some,Bool.not_false]
 exact ⟨trivial,trivial⟩
theorem ADG (G:Nat→AV) (m:Mo) (i:Nat) (hi:i < m.crs.length) (hg:CrGood m m.crs[i]) (l:List Int) (s:SM) (hin:LY (szs m m.crs[i].pts) l=true) (h:Hp):PCall (En G) 141 [.agg (DU m),.int .i64 (i:Int),.sl s 1 (l.map encI)] h (.bool (!PW m m.crs[i] l)):=by
 refine ACalls.pure0 rfl ?_
 have hh:=hg.here
 have hfour:=hg.four
 have hnum:=hg.num
 have hlen:l.length=m.crs[i].pts.length:=by have:=PH hin; rw [J3] at this; omega
 refine CG (H:=Hint.none) (enM G) Tryz.func141 rfl (by kernel_rfl) (by kernel_rfl) (Nat.le_of_ble_eq_true (by kernel_rfl)) ?_
 show awp _ _ _ _ _ (EU _ [.tmp 6] _)
 have gm:(h ++ [ABlk.live 2 [DU m]] ++ [ABlk.live 1 [[.sl s 1 (l.map encI)]]])[h.length]? = some (.live 2 [DU m]):=DL (CX _ _)
 have gl:=CX (h ++ [ABlk.live 2 [DU m]]) (.live 1 [[.sl s 1 (l.map encI)]])
 have hx : ∃ x,h ++ [ABlk.live 2 [DU m]] ++ [ABlk.live 1 [[.sl s 1 (l.map encI)]]]=h ++ x:=⟨_,List.append_assoc _ _ _⟩
 simp -implicitDefEqProofs only [ASD,BB,AZ,A8,AY,BC,AO,AQ,AL,BD,AX,AC,AA,A7,AU,BL,BA,FK,BO,BR,BG,BV,↓reduceIte,Nat.reduceEqDiff,Option.getD_some,Bool.not_false,enP,bxM]
 generalize h ++ [ABlk.live 2 [DU m]] ++ [ABlk.live 1 [[.sl s 1 (l.map encI)]]]=H at gm gl hx ⊢
 generalize (h ++ [ABlk.live 2 [DU m]]).length=lb at gl ⊢
 simp -implicitDefEqProofs only [AY,AO,AQ,AL,BD,AX,AC,AA,A7,CB,BF,BO,CE,BX,AB,BG,BV,List.map_cons,List.map_nil,List.append_nil,↓reduceIte,Nat.reduceEqDiff,Option.getD_some,Bool.not_false,enP,ldM gm,LM LC gl]
 refine (AFT G m i hi hg l s hin _).use ?_
 simp -implicitDefEqProofs only [List.getElem?_cons_zero,List.getElem?_cons_succ,BB,BP,AZ,BN,BI,A8,DY,AY,BC,AO,AQ,AL,BD,AX,AC,AA,A7,AU,BH,BF,BA,BO,H9,BJ,BZ,ET,FX,DN,AB,FB,BG,BV,↓reduceIte,Nat.reduceEqDiff,Nat.zero_add,Option.getD_some,Bool.not_true,Bool.not_false,enP,RF,IX,IL,JJ,AC8 gm,DJ hi,CV LC hi,TQ,List.length_map]
 have hkb:=QY m m.crs[i].pts l
 refine F8 0 (fun F H'=>F 1 = .int .i64 (i:Nat)∧F 3 = .ptr h.length 0 0∧F 5 = .ptr lb 0 0∧H'=H∧L8 m m.crs[i].pts l=true) (fun F H'=>F 6 = .bool true∧H'=H∧L8 m m.crs[i].pts l=false) ?_ ?_ ?_
 ·refine C9 (fun n F H' => ∃ k,n+k=l.length∧F 1 = .int .i64 (i:Nat)∧F 3 = .ptr h.length 0 0∧F 5 = .ptr lb 0 0∧F 25 = .sl m.crs[i].pm 1 (m.crs[i].pts.map encI)∧F 26 = .int .i64 m.crs[i].pts.length∧F 27 = .int .i64 (k:Nat)∧H'=H∧L8 m m.crs[i].pts l=L8 m (m.crs[i].pts.drop k) (l.drop k)) l.length ⟨0,by simp,by simp -implicitDefEqProofs only [AA,BG,BV,↓reduceIte,Nat.reduceEqDiff],by simp -implicitDefEqProofs only [AA,↓reduceIte,Nat.reduceEqDiff],by simp -implicitDefEqProofs only [AA,↓reduceIte,Nat.reduceEqDiff],by simp -implicitDefEqProofs only [AA,↓reduceIte,Nat.reduceEqDiff],by simp -implicitDefEqProofs only [AA,↓reduceIte,Nat.reduceEqDiff],by simp -implicitDefEqProofs only [AA,↓reduceIte]; rfl,rfl,rfl⟩ ?_
  rintro n F H' ⟨k,hk,f1,f3,f5,f25,f26,f27,rfl,hk0⟩
  simp -implicitDefEqProofs only [BB,AZ,BI,A8,AY,BC,AO,AQ,AL,BD,AX,AC,AA,A7,BQ,AB,CW,↓reduceIte,Option.getD_some,Bool.not_false,enP,f26,f27]
  refine CQ (fun hc => ?_) (fun hc => ?_)
  ·have hkc:k < m.crs[i].pts.length:=by simpa using hc
   have hk':k < l.length:=by omega
   rw [hkb k hkc hk'] at hk0
   obtain ⟨h0,h1⟩:=XG hin k hk' hkc
   obtain ⟨s2,ls⟩:=hh.ld hkc H'
   have hlt:l[k].toNat < (II m m.crs[i].pts[k]).length:=by omega
   simp -implicitDefEqProofs only [BB,BP,AZ,BN,A8,AY,BC,AO,AQ,AL,BD,AX,AC,AA,A7,BF,BA,BO,BZ,AB,↓reduceIte,Nat.reduceEqDiff,Option.getD_some,Bool.not_false,enP,JQ,f25,f27,DJ hkc,CV ag3 hkc,encI0]
   refine ER (by kernel_rfl) ?_
   simp -implicitDefEqProofs only [F7,D9,DT,E8,EC,FH,FC,IE,D5,D7,BI,A8,AO,AA,A7,AU,BH,BO,BQ,BJ,BZ,AB,EQ,↓reduceIte,Nat.reduceEqDiff,Nat.reduceAdd,Nat.add_zero,Nat.zero_add,Option.getD_some,enP,OJ,IG,XD,IU,JQ,MK,bne,f3,f5,f27,AFO gm,hh.ix hkc,ls,LM LC gl,DJ hk',CV ag3 hk',encI0,AGJ h0 h1,CV ag3 hlt,Q3,XW h0 h1]
   cases hkd:(UJ m m.crs[i].pts[k] l[k] == 0)
   ·simp -implicitDefEqProofs only [BB,AZ,BM,A8,CS,EG,LW,FM,DX,AY,BC,AO,AQ,AL,BD,AX,AC,AA,AU,BL,BA,↓reduceIte,Option.getD_some,Bool.not_false]
    exact ⟨trivial,trivial,by rw [hk0,hkd]; rfl⟩
   ·simp -implicitDefEqProofs only [AZ,BN,A8,D8,ED,DY,AY,BC,AO,AQ,AL,BD,AX,AC,AA,A7,AU,BH,BF,BQ,AB,CZ,↓reduceIte,Nat.reduceEqDiff,Option.getD_some,Bool.not_true,Bool.not_false,enP,f27,wrap_succ (show k < 9223372036854775807 by omega)]
    exact ⟨n - 1,by omega,k+1,by omega,f1,f3,f5,f25,f26,rfl,trivial,by rw [hk0,hkd]; rfl⟩
  ·have hk' : ¬ k < m.crs[i].pts.length:=by simpa using hc
   simp -implicitDefEqProofs only [DC,DZ,JM,EP,AA,↓reduceIte,Nat.reduceEqDiff]
   exact ⟨f1,f3,f5,trivial,by rw [hk0,List.drop_eq_nil_of_le (show l.length≤k by omega),TC]⟩
 ·rintro F H' ⟨f1,f3,f5,rfl,hk⟩
  simp -implicitDefEqProofs only [BB,AZ,A8,EN,AY,AO,AQ,AL,BD,AX,AC,AA,A7,CB,BF,BO,LZ,BJ,BZ,CE,BX,AB,List.map_cons,List.map_nil,List.append_nil,↓reduceIte,Nat.reduceEqDiff,Nat.zero_add,Option.getD_some,Bool.not_false,enP,RF,IX,PM,f1,f3,f5,AC8 gm,DJ hi,CV SH hi,AIY]
  refine (QM G m.crs[i].excl m.crs[i].xm 187 _ (fun x=>eqL x.l l) _ (by omega) fun r=>AIO G l s _ r _ gl (by omega)).use ?_
  simp -implicitDefEqProofs only [BM,A8,CU,AY,BC,AO,AQ,AL,BD,AX,AC,AA,A7,BA,↓reduceIte,Option.getD_some,Bool.not_false]
  exact ⟨by unfold PW; rw [hk]; simp,hx⟩
 ·rintro F H' ⟨f6,rfl,hk⟩
  simp -implicitDefEqProofs only [CS,EG,CU,f6]
  exact ⟨by unfold PW; rw [hk]; rfl,hx⟩
end Go.Proofs.YtocilianjfhifaaGreatDoor.Cov
/- Combinations of layer 47: the reference; no condition but the bounds on lengths. -/
set_option linter.unusedSimpArgs false
set_option maxRecDepth 8000
namespace Go.Proofs.YtocilianjfhifaaGreatDoor.Cov
open Go Go.Proofs Go.Proofs.YtocilianjfhifaaGreatDoor.Sm Go.Proofs.YtocilianjfhifaaGreatDoor.Bins Go.RowKit

theorem AAQ (G:Nat→AV) (m:Mo) (i:Nat) (hi:i < m.crs.length) (hg:CrGood m m.crs[i]) (h:Hp):PCall (En G) 189 [.agg (DU m),.int .i64 (i:Int)] h (.bool true):=by
 refine ACalls.pure0 rfl ?_
 have hfour:=hg.four
 have gm:=CX h (.live 2 [DU m])
 have hx : ∃ x,h ++ [ABlk.live 2 [DU m]]=h ++ x:=⟨_,rfl⟩
 refine CG (H:=Hint.none) (enM G) Tryz.func189 rfl (by kernel_rfl) (by kernel_rfl) (Nat.le_of_ble_eq_true (by kernel_rfl)) ?_
 show awp _ _ _ _ _ (EU _ [.tmp 4] _)
 have d0:decide ((i:Int) < 0)=false:=by simp
 have d1:decide ((i:Int)≥(m.crs.length:Int))=false:=by simp; omega
 simp -implicitDefEqProofs only [BB,BP,AZ,BN,BI,A8,DY,AY,BC,BK,BU,CO,EO,AO,AQ,AL,BD,AX,AC,AA,A7,AU,BH,BL,BF,BA,CP,DV,FK,BO,BQ,BJ,BZ,DN,BR,AB,CW,G7,BG,BV,↓reduceIte,Nat.reduceEqDiff,Nat.zero_add,Option.getD_some,Bool.not_false,enP,RF,TB,IX,JJ,bxM,d0,AC8 gm,List.length_map,d1,DJ hi,CV LC hi,TQ]
 generalize h ++ [ABlk.live 2 [DU m]]=H at gm hx ⊢
 refine C9 (fun n F H' => ∃ k,n+k=m.crs[i].pts.length∧F 2 = .ptr h.length 0 0∧F 5 = .sl m.crs[i].pm 1 (m.crs[i].pts.map encI)∧F 6 = .int .i64 (k:Nat)∧H'=H) m.crs[i].pts.length ⟨0,by simp,by simp -implicitDefEqProofs only [AA,↓reduceIte,Nat.reduceEqDiff],by simp -implicitDefEqProofs only [AA,↓reduceIte,Nat.reduceEqDiff],by simp -implicitDefEqProofs only [AA,↓reduceIte]; rfl,rfl⟩ ?_
 rintro n F H' ⟨k,hk,f2,f5,f6,rfl⟩
 simp -implicitDefEqProofs only [BB,AZ,BI,A8,AY,BC,AO,AQ,AL,BD,AX,AC,AA,A7,BF,BQ,DN,AB,CW,↓reduceIte,Nat.reduceEqDiff,Option.getD_some,Bool.not_false,enP,IL,f5,f6,List.length_map]
 refine CQ (fun hc => ?_) (fun hc => ?_)
 ·have hk':k < m.crs[i].pts.length:=by simpa using hc
  have hb:=hg.here _ (List.getElem_mem hk')
  have e0:decide (m.crs[i].pts[k] < 0)=false:=by simp; omega
  have e1:decide (m.crs[i].pts[k]≥(m.pts.length:Int))=false:=by simp; omega
  simp -implicitDefEqProofs only [BB,BP,BN,A8]
  refine ER (by kernel_rfl) ?_
  simp -implicitDefEqProofs only [F7,D9,DT,E8,EC,FQ,GR,QO,FH,I4,FC,IE,D5,D7,GV,AZ,BN,BI,A8,D8,ED,DY,AY,BC,CO,AO,AQ,AL,BD,AX,AC,AA,A7,AU,BH,BL,BF,BA,CP,DV,BO,BQ,BJ,BZ,DN,AB,CZ,CW,G7,↓reduceIte,Nat.reduceEqDiff,Nat.reduceAdd,Nat.add_zero,Option.getD_some,Bool.not_false,enP,QE,IG,JQ,f2,f5,f6,DJ hk',CV ag3 hk',encI0,e0,AFO gm,List.length_map,e1,wrap_succ (show k < 9223372036854775807 by omega)]
  exact ⟨n - 1,by omega,k+1,by omega,trivial,trivial,rfl,trivial⟩
 ·simp -implicitDefEqProofs only [BB,AZ,BM,DC,A8,DZ,EN,EP,CU,AY,BC,AO,AQ,AL,BD,AX,AC,AA,AU,BL,BA,↓reduceIte,Option.getD_some,Bool.not_false]
  exact ⟨trivial,hx⟩
theorem WO (G:Nat→AV) (m:Mo) (i:Nat) (hi:i < m.crs.length) (hg:CrGood m m.crs[i]) (k:Nat) (hk:k < m.crs[i].pts.length) (h:Hp):PCall (En G) 190 [.agg (DU m),.int .i64 (i:Int),.int .i64 (k:Int)] h (.int .i64 ((II m m.crs[i].pts[k]).length:Int)):=by
 refine ACalls.pure0 rfl ?_
 have gm:=CX h (.live 2 [DU m])
 obtain ⟨s,ls⟩:=hg.here.ld hk (h ++ [ABlk.live 2 [DU m]])
 refine CG (H:=Hint.none) (enM G) Tryz.func190 rfl (by kernel_rfl) (by kernel_rfl) (Nat.le_of_ble_eq_true (by kernel_rfl)) ?_
 show awp _ _ _ _ _ (EU _ [.tmp 6] _)
 simp -implicitDefEqProofs only [BB,AZ,A8,AY,BC,AO,AQ,AL,BD,AX,AC,A7,AU,BH,BA,FK,BR,BG,Option.getD_some,Bool.not_false,enP,bxM]
 refine ER (by kernel_rfl) ?_
 simp -implicitDefEqProofs only [F7,D9,DT,E8,EC,FH,IQ,FC,D5,D7,GV,BM,A8,CU,AO,AA,A7,BO,BJ,BZ,DN,AB,BG,BV,↓reduceIte,Nat.reduceEqDiff,Nat.reduceAdd,Nat.add_zero,Nat.zero_add,Option.getD_some,enP,OJ,RF,IG,IX,QS,IU,JQ,JJ,AFO gm,AC8 gm,DJ hi,CV LC hi,TQ,DJ hk,CV ag3 hk,encI0,hg.here.ix hk,ls,List.length_map]
 exact ⟨trivial,_,rfl⟩
theorem AAV (G:Nat→AV) (m:Mo) (i:Nat) (hi:i < m.crs.length) (hg:CrGood m m.crs[i]) (hf:Full m) (h:Hp):PCall (En G) 142 [.agg (DU m),.int .i64 (i:Int)] h (.int .i64 (FY (szs m m.crs[i].pts))):=by
 refine ACalls.pure0 rfl ?_
 have hfour:=hg.four
 have hs:=hf.szs hg.here
 have hsl:=J3 m m.crs[i].pts
 have hget:=U4 m m.crs[i].pts
 have gm:=CX h (.live 2 [DU m])
 have hx : ∃ x,h ++ [ABlk.live 2 [DU m]]=h ++ x:=⟨_,rfl⟩
 refine CG (H:=Hint.none) (enM G) Tryz.func142 rfl (by kernel_rfl) (by kernel_rfl) (Nat.le_of_ble_eq_true (by kernel_rfl)) ?_
 show awp _ _ _ _ _ (EU _ [.tmp 4] _)
 simp -implicitDefEqProofs only [BB,AZ,A8,AY,BC,AO,AQ,AL,BD,AX,AC,AA,A7,AU,CB,BH,BF,BA,FK,BO,CE,BX,BR,AB,BG,BV,List.map_cons,List.map_nil,List.append_nil,↓reduceIte,Nat.reduceEqDiff,Option.getD_some,Bool.not_false,enP,bxM,ldM gm]
 refine (AAQ G m i hi hg _).use ?_
 simp -implicitDefEqProofs only [BB,BP,AZ,BN,BI,A8,DY,AY,BC,AO,AQ,AL,BD,AX,AC,AA,A7,AU,BH,BA,H9,AB,FB,↓reduceIte,Option.getD_some,Bool.not_true,Bool.not_false]
 generalize h ++ [ABlk.live 2 [DU m]]=H at gm hx ⊢
 generalize szs m m.crs[i].pts=l at hs hsl hget ⊢
 have hp : ∀ k,FY (l.take k)≤16777216:=fun k=>by
  have:=AA8 (l.take k) 4 (fun n hn=>(hs n (List.mem_of_mem_take hn)).2) (by rw [List.length_take]; omega)
  simpa using this
 refine C9 (fun n F H' => ∃ k,n+k=l.length∧F 1 = .int .i64 (i:Nat)∧F 2 = .ptr h.length 0 0∧F 5 = .int .i64 (FY (l.take k))∧F 6 = .int .i64 (k:Nat)∧H'=H) l.length ⟨0,by simp,by simp -implicitDefEqProofs only [AA,BG,BV,↓reduceIte,Nat.reduceEqDiff],by simp -implicitDefEqProofs only [AA,↓reduceIte,Nat.reduceEqDiff],by simp -implicitDefEqProofs only [AA,↓reduceIte,Nat.reduceEqDiff]; rfl,by simp -implicitDefEqProofs only [AA,↓reduceIte]; rfl,rfl⟩ ?_
 rintro n F H' ⟨k,hk,f1,f2,f5,f6,rfl⟩
 simp -implicitDefEqProofs only [BB,AZ,BI,A8,AY,BC,AO,AQ,AL,BD,AX,AC,AA,A7,BF,BO,BQ,BJ,BZ,DN,AB,CW,↓reduceIte,Nat.reduceEqDiff,Nat.zero_add,Option.getD_some,Bool.not_false,enP,RF,IX,IL,JJ,f1,f2,f6,AC8 gm,DJ hi,CV LC hi,TQ,List.length_map]
 refine CQ (fun hc => ?_) (fun hc => ?_)
 ·have hkc:k < m.crs[i].pts.length:=by simpa using hc
  have hk':k < l.length:=by omega
  have h1:=hp (k+1)
  rw [NQ l k hk'] at h1
  have hgk:l[k]=(II m m.crs[i].pts[k]).length:=GZ (hget k hkc)
  have hw:IntKind.i64.wrap ((FY (l.take k):Int) * ((II m m.crs[i].pts[k]).length:Int))=((FY (l.take (k+1)):Nat):Int):=by
   rw [← hgk,NQ l k hk',← Int.natCast_mul,TY (by omega)]
  simp -implicitDefEqProofs only [BB,BP,AZ,BN,A8,AY,AO,AQ,AL,BD,AX,AC,AA,A7,CB,BF,BO,CE,BX,AB,List.map_cons,List.map_nil,List.append_nil,↓reduceIte,Nat.reduceEqDiff,Option.getD_some,Bool.not_false,enP,f1,f2,f5,f6,ldM gm]
  refine (WO G m i hi hg k hkc _).use ?_
  simp -implicitDefEqProofs only [AZ,A8,D8,ED,AY,BC,AO,AQ,AL,BD,AX,AC,AA,A7,AU,BH,BF,BA,BQ,AB,CZ,VI,↓reduceIte,Nat.reduceEqDiff,Option.getD_some,Bool.not_false,enP,f6,hw,wrap_succ (show k < 9223372036854775807 by omega)]
  exact ⟨n - 1,by omega,k+1,by omega,f1,f2,rfl,rfl,trivial⟩
 ·have hk' : ¬ k < m.crs[i].pts.length:=by simpa using hc
  rw [List.take_of_length_le (by omega)] at f5
  simp -implicitDefEqProofs only [BB,AZ,BM,DC,A8,DZ,EN,EP,CU,AY,BC,AO,AQ,AL,BD,AX,AC,AA,A7,BF,BA,↓reduceIte,Nat.reduceEqDiff,Option.getD_some,Bool.not_false,f5]
  exact ⟨trivial,hx⟩
theorem AG1 (G:Nat→AV) (m:Mo) (i:Nat) (hi:i < m.crs.length) (hg:CrGood m m.crs[i]) (hf:Full m) (K:Nat) (hK:K < FY (szs m m.crs[i].pts)) (h:Hp):PCall (En G) 143 [.agg (DU m),.int .i64 (i:Int),.int .i64 (K:Int)] h (.tup [.sl .any 1 ((NP (szs m m.crs[i].pts) K).map encI),.bool true]):=by
 have hprod:=hg.prod
 have hs:=hf.szs hg.here
 have hsl:=J3 m m.crs[i].pts
 have hget:=U4 m m.crs[i].pts
 have hfour:=hg.four
 show PCall (En G) 143 _ h (.tup [.sl .any 1 (((tupF (szs m m.crs[i].pts) K).1.map fun n:Nat=>(n:Int)).map encI),.bool true])
 rw [← AAK]
 refine AD3 ?_
 rw [NF]
 have gm:=CX h (.live 2 [DU m])
 refine CG (H:=Hint.none) (enM G) Tryz.func143 rfl (by kernel_rfl) (by kernel_rfl) (Nat.le_of_ble_eq_true (by kernel_rfl)) ?_
 show awp _ _ _ _ _ (EU _ [.tmp 6,.tmp 7] _)
 have d0:decide ((K:Int) < 0)=false:=by simp
 simp -implicitDefEqProofs only [BB,AZ,A8,AY,BC,BK,BU,CO,EO,AO,AQ,AL,BD,AX,AC,AA,A7,AU,CB,BH,BL,FV,BF,BA,FK,BO,BQ,CE,BX,BR,AB,CW,BG,BV,List.map_cons,List.map_nil,List.append_nil,↓reduceIte,Nat.reduceEqDiff,Option.getD_some,Bool.not_false,enP,bxM,d0,ldM gm]
 refine (AAV G m i hi hg hf _).use ?_
 have d1:decide ((K:Int)≥((FY (szs m m.crs[i].pts):Nat):Int))=false:=by simp; omega
 simp -implicitDefEqProofs only [BB,AZ,BN,BI,A8,DY,AY,BC,BK,BU,CO,EO,AO,AQ,AL,BD,AX,AC,AA,A7,AU,BL,BF,CP,DV,BO,BQ,JV,BJ,BZ,DN,AB,G7,BG,BV,↓reduceIte,Nat.reduceEqDiff,Nat.zero_add,Option.getD_some,Bool.not_false,enP,RF,IX,IL,JJ,d1,AC8 gm,DJ hi,CV LC hi,TQ,List.length_map]
 clear d1
 rw [← hsl]
 generalize szs m m.crs[i].pts=ns at hs hsl hK hprod hget ⊢
 have hlt:h.length < (h ++ [ABlk.live 2 [DU m]]).length:=by simp
 have he0:ext h (h ++ [ABlk.live 2 [DU m]]):=(ext.rfl' h).app _
 generalize h ++ [ABlk.live 2 [DU m]]=H at hlt he0 gm ⊢
 simp -implicitDefEqProofs only [BB,BP,AZ,A8,AY,BC,AO,AQ,AL,BD,AX,AC,AA,A7,AU,BH,BF,BA,BQ,DN,BR,AB,KY,↓reduceIte,Option.getD_some,Bool.not_false,enP,IL,AT4 H ns.length (by omega)]
 rw [wrap_i64 (n:=(ns.length:Int) - 1) (by omega) (by omega)]
 refine C9 (fun n F H' => ∃ j,n=j∧j≤ns.length∧F 1 = .int .i64 (i:Nat)∧F 3 = .ptr h.length 0 0∧F 8 = .own H.length 0 ns.length∧F 9 = .int .i64 ((j:Int) - 1)∧F 2 = .int .i64 ((tupF (ns.drop j) K).2:Nat)∧H'[h.length]? = some (.live 2 [DU m])∧ext h H'∧H'[H.length]? = some (.live 1 (((List.replicate ns.length 0).take j ++ (tupF (ns.drop j) K).1).map FI))) ns.length ⟨ns.length,rfl,Nat.le_refl _,by simp -implicitDefEqProofs only [AA,BG,BV,↓reduceIte,Nat.reduceEqDiff],by simp -implicitDefEqProofs only [AA,↓reduceIte,Nat.reduceEqDiff],by simp -implicitDefEqProofs only [AA,↓reduceIte,Nat.reduceEqDiff],by simp -implicitDefEqProofs only [AA,↓reduceIte],by simp -implicitDefEqProofs only [AA,BG,BV,↓reduceIte,Nat.reduceEqDiff]; rw [List.drop_eq_nil_of_le (Nat.le_refl _)]; rfl,DL gm,he0.app _,?_⟩ ?_
 ·rw [List.drop_eq_nil_of_le (Nat.le_refl _),List.take_of_length_le (by simp)]
  simp only [tupF,List.append_nil]
  exact CX _ _
 rintro n F H' ⟨j,rfl,hj,f1,f3,f8,f9,f2,gm',he,ho⟩
 simp -implicitDefEqProofs only [BB,AZ,BI,A8,AY,BC,AO,AQ,AL,BD,AX,AC,AA,A7,AU,BH,BF,BQ,AB,G7,↓reduceIte,Option.getD_some,Bool.not_false,enP,f9]
 cases n with
 | zero =>
   have:decide ((((0:Nat):Int) - 1)≥0)=false:=by decide
   simp -implicitDefEqProofs only [BB,AZ,BM,DC,A8,DZ,EN,EP,IV,DY,AY,BC,AO,AQ,AL,BD,AX,AC,AA,A7,AU,BL,BF,BA,↓reduceIte,Nat.reduceEqDiff,Option.getD_some,Bool.not_false,this,f8]
   rw [List.take_zero,List.nil_append,List.drop_zero] at ho
   exact ⟨he,H.length,Nat.le_of_lt hlt,rfl,ho⟩
 | succ j =>
   have hd:decide ((((j+1:Nat):Int) - 1)≥0)=true:=by simp
   have hj':j < ns.length:=by omega
   have hjc:j < m.crs[i].pts.length:=by omega
   have hgk:ns[j]=(II m m.crs[i].pts[j]).length:=GZ (hget j hjc)
   have h1:=(hs _ (List.getElem_mem hj')).1
   have e1:(((j+1:Nat):Int) - 1)=(j:Int):=by omega
   have hst:=tup_step (K:=K) hj'
   have hle:=ZY (ns.drop (j+1)) K
   generalize hr:(tupF (ns.drop (j+1)) K)=r at ho f2 hst hle
   have hrow : ∃ v,(((List.replicate ns.length 0).take (j+1) ++ r.1).map FI)[j]? = some [v]:=by
    refine ⟨.int .i64 0,?_⟩
    rw [List.getElem?_map,List.getElem?_append_left (by simp; omega),List.getElem?_take_of_lt (by omega),List.getElem?_replicate_of_lt hj']
    rfl
   have hset:=AAW (f:=FI) (pre:=List.replicate ns.length 0) (out:=r.1) (j:=j) (x:=r.2 % ns[j]) (by simpa using hj')
   simp -implicitDefEqProofs only [BB,BP,AZ,BN,A8,DX,AY,AO,AQ,AL,BD,AX,AC,AA,A7,CB,BF,BO,CE,BX,AB,List.map_cons,List.map_nil,List.append_nil,↓reduceIte,Nat.reduceEqDiff,Option.getD_some,Bool.not_false,enP,hd,f1,f3,f9,ldM gm']
   rw [e1]
   refine (WO G m i hi hg j hjc _).use ?_
   rw [← hgk]
   simp -implicitDefEqProofs only [BB,AZ,A8,D8,ED,AY,BC,AO,AQ,AL,BD,AX,AC,EZ,AA,A7,AU,BH,BF,BA,EI,BQ,BZ,AB,DR,KY,↓reduceIte,Nat.reduceEqDiff,Nat.zero_add,Option.getD_some,Bool.not_false,enP,JQ,Option.getD_none,f2,f8,f9,e1,TD ho hj',Z7 _ _ h1,AFJ _ _ h1 (show r.2≤9223372036854775807 by omega),AJY ho hrow,hset]
   refine ⟨j,by omega,j,rfl,by omega,f1,f3,trivial,?_,?_,EX gm' (Nat.ne_of_lt hlt),he.set (Nat.le_of_lt hlt) _,?_⟩
   ·rw [wrap_i64 (by omega) (by omega)]
   ·rw [hst]
   ·rw [hst]; exact EM ho
theorem AH4 (G:Nat→AV) (m:Mo) (i:Nat) (hi:i < m.crs.length) (hg:CrGood m m.crs[i]) (l:List Int) (s:SM) (hin:LY (szs m m.crs[i].pts) l=true) (h:Hp):PCall (En G) 191 [.agg (DU m),.int .i64 (i:Int),.sl s 1 (l.map encI)] h (.tup [.int .i64 (ADA (szs m m.crs[i].pts) l 0),.bool true]):=by
 have hfour:=hg.four
 have hsl:=J3 m m.crs[i].pts
 have hget:=U4 m m.crs[i].pts
 have hlen:=PH hin
 refine ACalls.pure 2 (R:=fun v H=>v = .tup [.int .i64 (ADA (szs m m.crs[i].pts) l 0),.bool true]∧∃ x,H=h ++ x) ?_ (fun v h' ⟨e,x⟩=>⟨x,by subst e; rfl⟩)
 have gm:=CX h (.live 2 [DU m])
 have hx : ∃ x,h ++ [ABlk.live 2 [DU m]]=h ++ x:=⟨_,rfl⟩
 refine CG (H:=Hint.none) (enM G) Tryz.func191 rfl (by kernel_rfl) (by kernel_rfl) (Nat.le_of_ble_eq_true (by kernel_rfl)) ?_
 show awp _ _ _ _ _ (EU _ [.tmp 6,.tmp 7] _)
 simp -implicitDefEqProofs only [BB,AZ,A8,AY,BC,AO,AQ,AL,BD,AX,AC,AA,A7,AU,CB,BH,BL,BF,BA,FK,BO,CE,BX,BR,AB,BG,BV,List.map_cons,List.map_nil,List.append_nil,↓reduceIte,Nat.reduceEqDiff,Option.getD_some,Bool.not_false,enP,bxM,ldM gm]
 refine (AAQ G m i hi hg _).use ?_
 have hne:((l.length:Int) != (m.crs[i].pts.length:Int))=false:=by rw [← hsl,hlen]; simp
 simp -implicitDefEqProofs only [BB,BP,AZ,BN,BI,A8,DY,AY,BC,BK,BU,CO,EO,AO,AQ,AL,BD,AX,AC,AA,A7,AU,BH,BL,BF,BA,CP,DV,BO,BQ,H9,BJ,BZ,DN,AB,EQ,FB,BG,BV,↓reduceIte,Nat.reduceEqDiff,Nat.zero_add,Option.getD_some,Bool.not_true,Bool.not_false,enP,RF,IX,IL,JJ,AC8 gm,DJ hi,CV LC hi,TQ,List.length_map,hne]
 generalize h ++ [ABlk.live 2 [DU m]]=H at gm hx ⊢
 generalize szs m m.crs[i].pts=ns at hin hsl hlen hget ⊢
 refine C9 (fun n F H' => ∃ k,n+k=l.length∧F 1 = .int .i64 (i:Nat)∧F 2 = .sl s 1 (l.map encI)∧F 3 = .ptr h.length 0 0∧(∃ z,F 8 = .int .i64 z∧ADA ns l 0=ADA (ns.drop k) (l.drop k) z)∧F 9 = .int .i64 (k:Nat)∧H'=H) l.length ⟨0,by simp,by simp -implicitDefEqProofs only [AA,BG,BV,↓reduceIte,Nat.reduceEqDiff],by simp -implicitDefEqProofs only [AA,BG,BV,↓reduceIte,Nat.reduceEqDiff],by simp -implicitDefEqProofs only [AA,↓reduceIte,Nat.reduceEqDiff],⟨0,rfl,rfl⟩,by simp -implicitDefEqProofs only [AA,↓reduceIte]; rfl,rfl⟩ ?_
 rintro n F H' ⟨k,hk,f1,f2,f3,⟨z,f8,hz⟩,f9,rfl⟩
 simp -implicitDefEqProofs only [BB,AZ,BI,A8,AY,BC,AO,AQ,AL,BD,AX,AC,AA,A7,BF,BQ,DN,AB,CW,↓reduceIte,Nat.reduceEqDiff,Option.getD_some,Bool.not_false,enP,IL,f2,f9,List.length_map]
 refine CQ (fun hc => ?_) (fun hc => ?_)
 ·have hk':k < l.length:=by simpa using hc
  have hkn:k < ns.length:=by omega
  have hkc:k < m.crs[i].pts.length:=by omega
  have hgk:ns[k]=(II m m.crs[i].pts[k]).length:=GZ (hget k hkc)
  obtain ⟨h0,h1⟩:=ABM hin k hk' hkn
  have d0:decide (l[k] < 0)=false:=by simp; omega
  have d1:decide (l[k]≥(ns[k]:Int))=false:=by simp; omega
  rw [List.drop_eq_getElem_cons hk',List.drop_eq_getElem_cons hkn] at hz
  simp -implicitDefEqProofs only [BB,BP,AZ,BN,A8,AY,AO,AQ,AL,BD,AX,AC,AA,A7,CB,BF,BO,CE,BX,AB,List.map_cons,List.map_nil,List.append_nil,↓reduceIte,Nat.reduceEqDiff,Option.getD_some,Bool.not_false,enP,f1,f3,f9,ldM gm]
  refine (WO G m i hi hg k hkc _).use ?_
  rw [← hgk]
  simp -implicitDefEqProofs only [BB,AZ,BN,BI,A8,D8,ED,DY,AY,BC,BK,BU,CO,EO,AO,AQ,AL,BD,AX,AC,AA,A7,AU,BH,BL,BF,BA,CP,DV,BO,BQ,BZ,AB,CZ,VI,CW,G7,↓reduceIte,Nat.reduceEqDiff,Option.getD_some,Bool.not_false,enP,JQ,f2,f8,f9,DJ hk',CV ag3 hk',encI0,d0,d1,wrap_succ (show k < 9223372036854775807 by omega)]
  exact ⟨n - 1,by omega,k+1,by omega,f1,trivial,f3,⟨_,rfl,hz⟩,rfl,trivial⟩
 ·have hk' : ¬ k < l.length:=by simpa using hc
  rw [List.drop_eq_nil_of_le (show l.length≤k by omega),AH7] at hz
  simp -implicitDefEqProofs only [BB,AZ,BM,DC,A8,DZ,EN,EP,IV,AY,BC,AO,AQ,AL,BD,AX,AC,AA,A7,AU,BL,BF,BA,↓reduceIte,Nat.reduceEqDiff,Option.getD_some,Bool.not_false,f8,hz]
  exact ⟨trivial,hx⟩
theorem AGB (G:Nat→AV) (m:Mo) (i:Nat) (hi:i < m.crs.length) (hg:CrGood m m.crs[i]) (l:List Int) (s:SM) (hin:LY (szs m m.crs[i].pts) l=true) (h:Hp):PCall (En G) 144 [.agg (DU m),.int .i64 (i:Int),.sl s 1 (l.map encI)] h (.bool (!PW m m.crs[i] l)):=by
 refine ACalls.pure0 rfl ?_
 have hh:=hg.here
 have hfour:=hg.four
 have hnum:=hg.num
 have hlen:l.length=m.crs[i].pts.length:=by have:=PH hin; rw [J3] at this; omega
 refine CG (H:=Hint.none) (enM G) Tryz.func144 rfl (by kernel_rfl) (by kernel_rfl) (Nat.le_of_ble_eq_true (by kernel_rfl)) ?_
 show awp _ _ _ _ _ (EU _ [.tmp 6] _)
 have t:=Two.mk' h m m.crs[i]
 simp -implicitDefEqProofs only [BB,AZ,A8,AY,BC,AO,AQ,AL,BD,AX,AC,AA,A7,AU,CB,BL,BF,BA,FK,BO,CE,BX,BR,AB,BG,BV,List.map_cons,List.map_nil,List.append_nil,↓reduceIte,Nat.reduceEqDiff,Option.getD_some,Bool.not_false,enP,bxM,ldM (CX h (.live 2 [DU m]))]
 refine (AH4 G m i hi hg l s hin _).use ?_
 simp -implicitDefEqProofs only [List.getElem?_cons_zero,List.getElem?_cons_succ,BB,BP,AZ,BN,BI,A8,DY,AY,BC,AO,AQ,AL,BD,AX,AC,EZ,AA,A7,AU,BH,BF,BA,FW,BO,EI,H9,BJ,BZ,ET,FX,BR,AB,DR,FB,BG,BV,↓reduceIte,Nat.reduceEqDiff,Nat.zero_add,Option.getD_some,Bool.not_true,Bool.not_false,enP,RF,IX,Option.getD_none,AC8 (CX h (.live 2 [DU m])),DJ hi,FD ACQ X7 KG hi,AVF,AS9 _ _ [.str ⟨#[]⟩,.sl .nil 0 [],.sl .nil 0 []] rfl]
 generalize h ++ [ABlk.live 2 [DU m]] ++ [ABlk.live 3 [H6 m.crs[i]]]=H at t ⊢
 generalize (h ++ [ABlk.live 2 [DU m]]).length=cb at t ⊢
 have hkb:=QY m m.crs[i].pts l
 refine F8 0 (fun F H'=>F 2 = .sl s 1 (l.map encI)∧F 3 = .ptr h.length 0 0∧F 9 = .ptr cb 0 0∧H'=H∧(m.crs[i].excl.any fun x=>eqL x.l l)=false) (fun F H'=>F 6 = .bool true∧H'=H∧(m.crs[i].excl.any fun x=>eqL x.l l)=true) ?_ ?_ ?_
 ·refine C9 (fun n F H' => ∃ k,n+k=m.crs[i].excl.length∧F 2 = .sl s 1 (l.map encI)∧F 3 = .ptr h.length 0 0∧F 9 = .ptr cb 0 0∧F 10 = .int .i64 (k:Nat)∧H'=H∧(m.crs[i].excl.any fun x=>eqL x.l l)=((m.crs[i].excl.drop k).any fun x=>eqL x.l l)) m.crs[i].excl.length ⟨0,by simp,by simp -implicitDefEqProofs only [AA,BG,BV,↓reduceIte,Nat.reduceEqDiff],by simp -implicitDefEqProofs only [AA,↓reduceIte,Nat.reduceEqDiff],by simp -implicitDefEqProofs only [AA,↓reduceIte,Nat.reduceEqDiff],by simp -implicitDefEqProofs only [AA,↓reduceIte]; rfl,rfl,rfl⟩ ?_
  rintro n F H' ⟨k,hk,f2,f3,f9,f10,rfl,ha⟩
  simp -implicitDefEqProofs only [BB,AZ,BI,A8,AY,BC,AO,AQ,AL,BD,AX,AC,AA,A7,BF,BO,BQ,BJ,DN,AB,CW,↓reduceIte,Nat.reduceEqDiff,Nat.zero_add,Option.getD_some,Bool.not_false,enP,YF,PM,f9,f10,t.l2,List.length_map]
  refine CQ (fun hc => ?_) (fun hc => ?_)
  ·have hk':k < m.crs[i].excl.length:=by simpa using hc
   have hs:=LV (fun x:Is=>eqL x.l l) m.crs[i].excl k hk'
   simp -implicitDefEqProofs only [BB,BP,AZ,BN,A8,AY,AO,AQ,AL,BD,AX,AC,AA,A7,CB,BF,BO,BJ,BZ,CE,BX,AB,List.map_cons,List.map_nil,List.append_nil,↓reduceIte,Nat.reduceEqDiff,Nat.zero_add,Option.getD_some,Bool.not_false,enP,QT,PM,f2,f9,f10,t.l2,DJ hk',CV LC hk',NC]
   refine (AJ4 G m.crs[i].excl[k].l l _ s _ (by omega)).use ?_
   simp -implicitDefEqProofs only [BI,A8,BC,AC,AA,A7,↓reduceIte]
   cases he:eqL m.crs[i].excl[k].l l
   ·simp -implicitDefEqProofs only [AZ,BN,A8,D8,ED,DY,AY,BC,AO,AQ,AL,BD,AX,AC,AA,A7,AU,BH,BF,BA,BQ,AB,CZ,↓reduceIte,Nat.reduceEqDiff,Option.getD_some,Bool.not_false,enP,f10,wrap_succ (show k < 9223372036854775807 by omega)]
    exact ⟨n - 1,by omega,k+1,by omega,f2,f3,f9,rfl,trivial,by rw [ha,hs,he]; rfl⟩
   ·simp -implicitDefEqProofs only [BB,AZ,BM,A8,CS,EG,LW,FM,DX,AY,BC,AO,AQ,AL,BD,AX,AC,AA,AU,BL,BA,↓reduceIte,Option.getD_some,Bool.not_false]
    exact ⟨trivial,trivial,by rw [ha,hs,he]; rfl⟩
  ·have hk' : ¬ k < m.crs[i].excl.length:=by simpa using hc
   simp -implicitDefEqProofs only [DC,DZ,JM,EP,AA,↓reduceIte,Nat.reduceEqDiff]
   exact ⟨f2,f3,f9,trivial,by rw [ha,List.drop_eq_nil_of_le (by omega)]; rfl⟩
 ·rintro F H' ⟨f2,f3,f9,rfl,ha⟩
  have hhb:PW m m.crs[i] l=L8 m m.crs[i].pts l:=by unfold PW; rw [ha]; simp
  rw [hhb]
  simp -implicitDefEqProofs only [BB,BP,AZ,A8,EN,AY,BC,AO,AQ,AL,BD,AX,AC,AU,BH,BA,↓reduceIte,Option.getD_some,Bool.not_false]
  refine C9 (fun n F H => ∃ k,n+k=l.length∧F 2 = .sl s 1 (l.map encI)∧F 3 = .ptr h.length 0 0∧F 9 = .ptr cb 0 0∧F 11 = .int .i64 (k:Nat)∧H=H'∧L8 m m.crs[i].pts l=L8 m (m.crs[i].pts.drop k) (l.drop k)) l.length ⟨0,by simp,by simp -implicitDefEqProofs only [AA,↓reduceIte,Nat.reduceEqDiff,f2],by simp -implicitDefEqProofs only [AA,↓reduceIte,Nat.reduceEqDiff,f3],by simp -implicitDefEqProofs only [AA,↓reduceIte,Nat.reduceEqDiff,f9],by simp -implicitDefEqProofs only [AA,↓reduceIte]; rfl,rfl,rfl⟩ ?_
  clear f2 f3 f9
  rintro n F H' ⟨k,hk,f2,f3,f9,f11,rfl,hk0⟩
  simp -implicitDefEqProofs only [BB,AZ,BI,A8,AY,BC,AO,AQ,AL,BD,AX,AC,AA,A7,BF,BQ,DN,AB,CW,↓reduceIte,Nat.reduceEqDiff,Option.getD_some,Bool.not_false,enP,IL,f2,f11,List.length_map]
  refine CQ (fun hc => ?_) (fun hc => ?_)
  ·have hk':k < l.length:=by simpa using hc
   have hkc:k < m.crs[i].pts.length:=by omega
   rw [hkb k hkc hk'] at hk0
   obtain ⟨h0,h1⟩:=XG hin k hk' hkc
   obtain ⟨s2,ls⟩:=hh.ld hkc H'
   have hlt:l[k].toNat < (II m m.crs[i].pts[k]).length:=by omega
   simp -implicitDefEqProofs only [BB,BP,BN,A8]
   refine ER (by kernel_rfl) ?_
   simp -implicitDefEqProofs only [F7,D9,DT,E8,EC,FH,FC,IE,D5,D7,BI,A8,AO,AA,A7,AU,BH,BO,BQ,BJ,BZ,AB,EQ,↓reduceIte,Nat.reduceEqDiff,Nat.reduceAdd,Nat.add_zero,Nat.zero_add,Option.getD_some,enP,OJ,IG,XD,IU,JQ,JJ,MK,bne,f2,f3,f9,f11,t.lm,t.l1,DJ hkc,CV ag3 hkc,DJ hk',CV ag3 hk',encI0,hh.ix hkc,ls,AGJ h0 h1,CV ag3 hlt,Q3,XW h0 h1]
   cases hkd:(UJ m m.crs[i].pts[k] l[k] == 0)
   ·simp -implicitDefEqProofs only [BB,AZ,BM,A8,CS,EG,FM,CU,DX,AY,BC,AO,AQ,AL,BD,AX,AC,AA,AU,BL,BA,↓reduceIte,Option.getD_some,Bool.not_false]
    exact ⟨by rw [hk0,hkd]; rfl,t.hx⟩
   ·simp -implicitDefEqProofs only [AZ,BN,A8,D8,ED,DY,AY,BC,AO,AQ,AL,BD,AX,AC,AA,A7,AU,BH,BF,BA,BQ,AB,CZ,↓reduceIte,Nat.reduceEqDiff,Option.getD_some,Bool.not_true,Bool.not_false,enP,f11,wrap_succ (show k < 9223372036854775807 by omega)]
    exact ⟨n - 1,by omega,k+1,by omega,f2,f3,f9,rfl,trivial,by rw [hk0,hkd]; rfl⟩
  ·have hk' : ¬ k < l.length:=by simpa using hc
   simp -implicitDefEqProofs only [BB,AZ,BM,DC,A8,DZ,EN,EP,CU,AY,BC,AO,AQ,AL,BD,AX,AC,AA,AU,BL,BA,↓reduceIte,Option.getD_some,Bool.not_false]
   exact ⟨by rw [hk0,List.drop_eq_nil_of_le (show l.length≤k by omega),TC]; rfl,t.hx⟩
 ·rintro F H' ⟨f6,rfl,ha⟩
  simp -implicitDefEqProofs only [CS,EG,CU,f6]
  exact ⟨by unfold PW; rw [ha]; simp,t.hx⟩
end Go.Proofs.YtocilianjfhifaaGreatDoor.Cov
/- The goals of a model: the program; no condition but the bounds on lengths. -/
namespace Go.Proofs.YtocilianjfhifaaGreatDoor.Cov
open Go Go.Proofs Go.Proofs.YtocilianjfhifaaGreatDoor.Sm Go.Proofs.YtocilianjfhifaaGreatDoor.Bins Go.RowKit

/-- a goal -/
structure Gl where
 cross:Bool
 idx:Nat
 bm:SM
 bins:List Int
 at_:Nat
def IJ (g:Gl):List AV := [.bool g.cross,.int .i64 (g.idx:Int),.sl g.bm 1 (g.bins.map encI),.int .i64 (g.at_:Int)]
def JU (g:Gl):List AV := [.bool g.cross,.int .i64 (g.idx:Int),.sl g.bm 1 (g.bins.map encI)]
theorem OE (g:Gl):(IJ g).length=4:=rfl
theorem XQ (g:Gl):(JU g).length=3:=rfl
theorem AY2:Frz IJ:=fun _ _ _ _=>⟨rfl,rfl⟩
theorem A0O:Frz JU:=fun _ _ _ _=>⟨rfl,rfl⟩
def mkP (i k:Nat):Gl:=⟨false,i,.full,[(k:Int)],k⟩
def mkC (m:Mo) (i k:Nat) (c:Cr):Gl:=⟨true,i,.any,NP (szs m c.pts) k,k⟩
def gPk (i:Nat) (p:Pt):Nat→List Gl
 | 0 => []
 | k+1=>gPk i p k ++ (if (kindOf p k == 0)=true then [mkP i k] else [])
def gP (m:Mo):Nat→List Gl
 | 0 => []
 | i+1=>gP m i ++ (match m.pts[i]? with | some p=>gPk i p p.bins.length | none => [])
def gCk (m:Mo) (i:Nat) (c:Cr):Nat→List Gl
 | 0 => []
 | k+1=>gCk m i c k ++ (if PW m c (NP (szs m c.pts) k)=true then [mkC m i k c] else [])
def gC (m:Mo):Nat→List Gl
 | 0=>gP m m.pts.length
 | i+1=>gC m i ++ (match m.crs[i]? with | some c=>gCk m i c (FY (szs m c.pts)) | none => [])
def goals (m:Mo):List Gl:=gC m m.crs.length
theorem AAC (i:Nat) (p:Pt) : ∀ k,(gPk i p k).length≤k
 | 0=>Nat.le_refl _
 | k+1=>by
   have:=AAC i p k
   simp only [gPk,List.length_append]
   split <;> simp <;> omega
theorem AFX {m:Mo} (hf:Full m) : ∀ i,(gP m i).length≤64 * i
 | 0=>Nat.le_refl _
 | i+1=>by
   have h1:=AFX hf i
   simp only [gP,List.length_append]
   split
   ·rename_i p hp
    have h2:=AAC i p p.bins.length
    have h3:=(hf p (List.mem_of_getElem? hp)).2
    omega
   ·simp; omega
theorem AAD (m:Mo) (i:Nat) (c:Cr) : ∀ k,(gCk m i c k).length≤k
 | 0=>Nat.le_refl _
 | k+1=>by
   have:=AAD m i c k
   simp only [gCk,List.length_append]
   split <;> simp <;> omega
theorem AFY {m:Mo} (hg:Good m) : ∀ i,(gC m i).length≤64 * m.pts.length+256 * i
 | 0=>AFX hg.full _
 | i+1=>by
   have h1:=AFY hg i
   simp only [gC,List.length_append]
   split
   ·rename_i c hc
    have h2:=AAD m i c (FY (szs m c.pts))
    have h3:=(hg.crs c (List.mem_of_getElem? hc)).prod
    omega
   ·simp; omega
theorem KT {m:Mo} (hg:Good m):(goals m).length≤8192:=by
 have h1:=AFY hg m.crs.length
 have h2:=hg.num
 unfold goals; omega
theorem AWN (i:Int) (xs:List (List AV)):KN Tryz.prog 106 [(1,.int .i64 i),(2,.sl .full 1 xs)]=some (.agg [.bool false,.int .i64 i,.sl .full 1 xs]):=by kernel_rfl
theorem AWO (i:Int) (xs:List (List AV)):KN Tryz.prog 106 [(0,.bool true),(1,.int .i64 i),(2,.sl .any 1 xs)]=some (.agg [.bool true,.int .i64 i,.sl .any 1 xs]):=by kernel_rfl
theorem AZN (i k:Int) (xs:List (List AV)):KN Tryz.prog 108 [(0,.agg [.bool false,.int .i64 i,.sl .full 1 xs]),(1,.int .i64 k)]=some (.agg [.bool false,.int .i64 i,.sl .full 1 xs,.int .i64 k]):=by kernel_rfl
theorem AZO (i k:Int) (xs:List (List AV)):KN Tryz.prog 108 [(0,.agg [.bool true,.int .i64 i,.sl .any 1 xs]),(1,.int .i64 k)]=some (.agg [.bool true,.int .i64 i,.sl .any 1 xs,.int .i64 k]):=by kernel_rfl
theorem AZG (h:Hp) (g:Gl) (hf:(IJ g).all AV.frozen=true):FO Tryz.prog false h 101 1 [(0,.agg (IJ g))]=some (.sl .full 4 [IJ g],h):=by
 have h1:Tryz.prog.underlying 101=some (.slice 108):=AP1
 unfold FO
 simp only [h1,Y6,APU]
 have h2:UE 4 0 [(0,AV.agg (IJ g))]=some [IJ g]:=rfl
 simp [h2,hf]
end Go.Proofs.YtocilianjfhifaaGreatDoor.Cov
/- The goals of a model: merge.goals; no condition but the bounds on lengths. -/
set_option linter.unusedSimpArgs false
set_option maxRecDepth 8000
namespace Go.Proofs.YtocilianjfhifaaGreatDoor.Cov
open Go Go.Proofs Go.Proofs.YtocilianjfhifaaGreatDoor.Sm Go.Proofs.YtocilianjfhifaaGreatDoor.Bins Go.RowKit

theorem ABQ (G:Nat→AV) (m:Mo) (hm:MoOk m) (hg:Good m) (h:Hp):PCall (En G) 80 [.agg (DU m)] h (.sl (nm (goals m)) 4 ((goals m).map IJ)):=by
 refine MS AY2 ?_
 have hm1:=hm.np
 have hm2:=hm.nc
 have hnum:=hg.num
 refine CG (H:=Hint.none) (enM G) Tryz.func80 rfl (by kernel_rfl) (by kernel_rfl) (Nat.le_of_ble_eq_true (by kernel_rfl)) ?_
 show awp _ _ _ _ _ (EU _ [.tmp 2] _)
 simp -implicitDefEqProofs only [BB,BP,AZ,A8,AY,BC,AO,AQ,AL,BD,AX,AC,AA,A7,AU,BH,FV,BF,BA,FK,BO,BJ,DN,BR,AB,BG,↓reduceIte,Nat.reduceEqDiff,Nat.add_zero,Option.getD_some,Bool.not_false,enP,QE,IG,bxM,AFO (CX h (.live 2 [DU m])),List.length_map]
 refine F8 0 (fun F H=>F 1 = .ptr h.length 0 0∧H[h.length]? = some (.live 2 [DU m])∧ext h H∧(∀ b,isB (F 3) b→h.length < b)∧outG 4 IJ h (gC m 0) (F 3) H) (fun _ _=>False) ?_ ?_ (fun _ _ hh=>hh.elim)
 ·refine C9 (fun n F H => ∃ i,n+i=m.pts.length∧F 1 = .ptr h.length 0 0∧F 13 = .sl m.pm 6 (m.pts.map IM)∧F 14 = .int .i64 m.pts.length∧F 15 = .int .i64 (i:Nat)∧H[h.length]? = some (.live 2 [DU m])∧ext h H∧(∀ b,isB (F 3) b→h.length < b)∧outG 4 IJ h (gP m i) (F 3) H) m.pts.length ⟨0,by simp,by simp -implicitDefEqProofs only [AA,↓reduceIte,Nat.reduceEqDiff],by simp -implicitDefEqProofs only [AA,↓reduceIte,Nat.reduceEqDiff],by simp -implicitDefEqProofs only [AA,↓reduceIte,Nat.reduceEqDiff],by simp -implicitDefEqProofs only [AA,↓reduceIte]; rfl,CX _ _,(ext.rfl' h).app _,fun b hb=>hb.elim,outG.nil _ _ _ _⟩ ?_
  rintro n F H ⟨i,hi,f1,f13,f14,f15,gm,he,hlt,ho⟩
  simp -implicitDefEqProofs only [BB,AZ,BI,A8,AY,BC,AO,AQ,AL,BD,AX,AC,AA,A7,BQ,AB,CW,↓reduceIte,Option.getD_some,Bool.not_false,enP,f14,f15]
  refine CQ (fun hc => ?_) (fun hc => ?_)
  ·have hi':i < m.pts.length:=by simpa using hc
   have hgp:gP m (i+1)=gP m i ++ gPk i m.pts[i] m.pts[i].bins.length:=by
    simp only [gP]; rw [List.getElem?_eq_getElem hi']
   have h64:=(hg.full _ (List.getElem_mem hi')).2
   have hpl:=AFX hg.full i
   simp -implicitDefEqProofs only [BB,BP,AZ,BN,A8,AY,BC,AO,AQ,AL,BD,AX,AC,EZ,AA,A7,AU,BH,BF,BA,FW,BO,EI,BJ,BZ,DN,BR,AB,DR,↓reduceIte,Nat.reduceEqDiff,Nat.zero_add,Option.getD_some,Bool.not_false,enP,OJ,QS,IU,Option.getD_none,f13,f15,DJ hi',FD AGM ZM J8 hi',AVG,ATA _ _ [.str ⟨#[]⟩,.int .i64 0,.int .i64 0,.str ⟨#[]⟩,.sl .nil 0 [],.sl .nil 0 []] rfl,DI PO,ML,List.length_map]
   refine F8 2 (fun F' H'=>F' 1 = .ptr h.length 0 0∧F' 13 = .sl m.pm 6 (m.pts.map IM)∧F' 14 = .int .i64 m.pts.length∧F' 15 = .int .i64 (i:Nat)∧H'[h.length]? = some (.live 2 [DU m])∧ext h H'∧(∀ b,isB (F' 3) b→h.length < b)∧outG 4 IJ h (gP m (i+1)) (F' 3) H') (fun _ _=>False) ?_ ?_ (fun _ _ hh=>hh.elim)
   ·refine C9 (fun n F' H' => ∃ k,n+k=m.pts[i].bins.length∧F' 1 = .ptr h.length 0 0∧F' 13 = .sl m.pm 6 (m.pts.map IM)∧F' 14 = .int .i64 m.pts.length∧F' 15 = .int .i64 (i:Nat)∧F' 4 = .int .i64 (i:Nat)∧F' 21 = .sl m.pts[i].bm 4 (m.pts[i].bins.map J9)∧F' 22 = .int .i64 m.pts[i].bins.length∧F' 23 = .int .i64 (k:Nat)∧H'[h.length]? = some (.live 2 [DU m])∧ext h H'∧(∀ b,isB (F' 3) b→h.length < b)∧outG 4 IJ h (gP m i ++ gPk i m.pts[i] k) (F' 3) H') m.pts[i].bins.length ⟨0,by simp,by simp -implicitDefEqProofs only [AA,↓reduceIte,Nat.reduceEqDiff,f1],by simp -implicitDefEqProofs only [AA,↓reduceIte,Nat.reduceEqDiff,f13],by simp -implicitDefEqProofs only [AA,↓reduceIte,Nat.reduceEqDiff,f14],by simp -implicitDefEqProofs only [AA,↓reduceIte,Nat.reduceEqDiff,f15],by simp -implicitDefEqProofs only [AA,↓reduceIte,Nat.reduceEqDiff],by simp -implicitDefEqProofs only [AA,↓reduceIte,Nat.reduceEqDiff],by simp -implicitDefEqProofs only [AA,↓reduceIte,Nat.reduceEqDiff],by simp -implicitDefEqProofs only [AA,↓reduceIte]; rfl,DL gm,he.app _,hlt,by rw [show gPk i m.pts[i] 0 = [] from rfl,List.append_nil]; exact ho.app _⟩ ?_
    clear f1 f13 f14 f15 gm he hlt ho
    rintro n' F H ⟨k,hk,f1,f13,f14,f15,f4,f21,f22,f23,gm,he,hlt,ho⟩
    simp -implicitDefEqProofs only [BB,AZ,BI,A8,AY,BC,AO,AQ,AL,BD,AX,AC,AA,A7,BQ,AB,CW,↓reduceIte,Option.getD_some,Bool.not_false,enP,f22,f23]
    refine CQ (fun hc => ?_) (fun hc => ?_)
    ·have hk':k < m.pts[i].bins.length:=by simpa using hc
     have hkd:kindOf m.pts[i] k=(m.pts[i].bins[k]).kind:=by unfold kindOf; rw [List.getElem?_eq_getElem hk']
     have hkl:=AAC i m.pts[i] k
     have ho1:=ho.app [.live 4 [J9 m.pts[i].bins[k]]]
     have he1:ext h (H ++ [.live 4 [J9 m.pts[i].bins[k]]]):=he.app _
     simp -implicitDefEqProofs only [BB,BP,AZ,BN,BI,A8,AY,BC,AO,AQ,AL,BD,AX,AC,EZ,AA,A7,AU,BH,BF,BA,FW,BO,EI,BQ,BJ,BZ,BR,AB,DR,EJ,↓reduceIte,Nat.reduceEqDiff,Nat.zero_add,Option.getD_some,Bool.not_false,enP,XD,MK,Option.getD_none,f21,f23,DJ hk',FD ZI UB MP hk',AZU,AYN _ _ [.str ⟨#[]⟩,.int .i64 0,.sl .nil 0 [],.sl .nil 0 []] rfl,DI ag3,Q3]
     cases hz:(m.pts[i].bins[k].kind == 0)
     ·have hgk:gPk i m.pts[i] (k+1)=gPk i m.pts[i] k:=by
       simp only [gPk]; rw [hkd,hz]; simp
      simp -implicitDefEqProofs only [AZ,BN,A8,D8,ED,DY,AY,BC,AO,AQ,AL,BD,AX,AC,AA,A7,AU,BH,BF,BQ,AB,CZ,↓reduceIte,Nat.reduceEqDiff,Option.getD_some,Bool.not_false,enP,f23,wrap_succ (show k < 9223372036854775807 by omega)]
      refine ⟨n' - 1,by omega,k+1,by omega,f1,f13,f14,f15,f4,f21,f22,rfl,DL gm,he1,hlt,?_⟩
      rw [hgk]; exact ho1
     ·have hgk:gP m i ++ gPk i m.pts[i] (k+1)=(gP m i ++ gPk i m.pts[i] k) ++ [mkP i k]:=by
       simp only [gPk]; rw [hkd,hz,if_pos rfl,List.append_assoc]
      obtain ⟨v',H',ha,ho',hkeep,he',hle,hb'⟩:=ho1.append AP1 Y6 APU AWK (by omega) (by rw [List.length_append]; omega) he1 (mkP i k)
      simp -implicitDefEqProofs only [FP,FZ,AZ,DX,AY,AO,AQ,AL,BD,AX,AC,AA,A7,BF,JI,ES,BR,AB,↓reduceIte,Nat.reduceEqDiff,Option.getD_some,Bool.not_false,enP,f4,ACI,AWN,AZN]
      rw [show [AV.bool false,AV.int .i64 ((i:Nat):Int),AV.sl .full 1 [[.int .i64 ((k:Nat):Int)]],AV.int .i64 ((k:Nat):Int)]=IJ (mkP i k) from rfl]
      simp -implicitDefEqProofs only [AY,AO,AQ,AL,BD,AX,AC,AA,A7,GU,BR,↓reduceIte,Nat.reduceEqDiff,Option.getD_some,Bool.not_false,enP,AZG _ _ (show (IJ (mkP i k)).all AV.frozen=true from rfl)]
      refine F9 (v:=v') (h:=H') ha ?_
      simp -implicitDefEqProofs only [AZ,A8,D8,ED,AY,BC,AO,AQ,AL,BD,AX,AC,AA,A7,AU,BH,BF,BA,BQ,AB,CZ,↓reduceIte,Nat.reduceEqDiff,Option.getD_some,Bool.not_false,enP,f23,wrap_succ (show k < 9223372036854775807 by omega)]
      refine ⟨n' - 1,by omega,k+1,by omega,f1,f13,f14,f15,f4,f21,f22,rfl,hkeep _ _ (DL gm) (fun e=>by have:=hlt _ e; omega),he',fun b hbb => ?_,?_⟩
      ·have h1:=hb' b hbb; have h2:=CJ gm; rw [h1]; simp; omega
      ·rw [hgk]; exact ho'
    ·have hk' : ¬ k < m.pts[i].bins.length:=by simpa using hc
     have hke:k=m.pts[i].bins.length:=by omega
     simp -implicitDefEqProofs only [DC,DZ,JM,EP,AA,↓reduceIte,Nat.reduceEqDiff]
     refine ⟨f1,f13,f14,f15,gm,he,hlt,?_⟩
     rw [hgp,← hke]; exact ho
   ·rintro F' H' ⟨g1,g13,g14,g15,gm',he',hlt',ho'⟩
    simp -implicitDefEqProofs only [AZ,A8,D8,EN,ED,AY,BC,AO,AQ,AL,BD,AX,AC,AA,A7,AU,BH,BF,BQ,AB,CZ,↓reduceIte,Nat.reduceEqDiff,Option.getD_some,Bool.not_false,enP,g15,wrap_succ (show i < 9223372036854775807 by omega)]
    exact ⟨n - 1,by omega,i+1,by omega,g1,g13,g14,rfl,gm',he',hlt',ho'⟩
  ·have hi' : ¬ i < m.pts.length:=by simpa using hc
   have hie:i=m.pts.length:=by omega
   subst hie
   simp -implicitDefEqProofs only [DC,DZ,JM,EP,AA,↓reduceIte,Nat.reduceEqDiff]
   exact ⟨f1,gm,he,hlt,ho⟩
 ·rintro F H ⟨f1,gm,he,hlt,ho⟩
  simp -implicitDefEqProofs only [BB,BP,AZ,A8,EN,AY,BC,AO,AQ,AL,BD,AX,AC,AA,A7,AU,BH,BF,BO,BJ,DN,AB,↓reduceIte,Nat.zero_add,Option.getD_some,Bool.not_false,enP,TB,IX,f1,AC8 gm,List.length_map]
  refine C9 (fun n F H => ∃ i,n+i=m.crs.length∧F 1 = .ptr h.length 0 0∧F 44 = .int .i64 m.crs.length∧F 45 = .int .i64 (i:Nat)∧H[h.length]? = some (.live 2 [DU m])∧ext h H∧(∀ b,isB (F 3) b→h.length < b)∧outG 4 IJ h (gC m i) (F 3) H) m.crs.length ⟨0,by simp,by simp -implicitDefEqProofs only [AA,↓reduceIte,Nat.reduceEqDiff,f1],by simp -implicitDefEqProofs only [AA,↓reduceIte,Nat.reduceEqDiff],by simp -implicitDefEqProofs only [AA,↓reduceIte]; rfl,gm,he,hlt,ho⟩ ?_
  clear f1 gm he hlt ho
  rintro n F H ⟨i,hi,f1,f44,f45,gm,he,hlt,ho⟩
  simp -implicitDefEqProofs only [BB,AZ,BI,A8,AY,BC,AO,AQ,AL,BD,AX,AC,AA,A7,BQ,AB,CW,↓reduceIte,Option.getD_some,Bool.not_false,enP,f44,f45]
  refine CQ (fun hc => ?_) (fun hc => ?_)
  ·have hi':i < m.crs.length:=by simpa using hc
   have hcg:=hg.crs _ (List.getElem_mem hi')
   have hfs:=hg.full.szs hcg.here
   have hgc:gC m (i+1)=gC m i ++ gCk m i m.crs[i] (FY (szs m m.crs[i].pts)):=by
    simp only [gC]; rw [List.getElem?_eq_getElem hi']
   have hpr:=hcg.prod
   have hcl:=AFY hg i
   simp -implicitDefEqProofs only [BB,BP,AZ,BN,A8,AY,BC,AO,AQ,AL,BD,AX,AC,AA,A7,CB,BF,BA,BO,CE,BX,AB,List.map_cons,List.map_nil,List.append_nil,↓reduceIte,Nat.reduceEqDiff,Option.getD_some,Bool.not_false,enP,f1,f45,ldM gm]
   refine (Y7 G m i hi' hcg hg.full _).use ?_
   simp -implicitDefEqProofs only [BP,A8,AY,BC,AO,AQ,AL,BD,AX,AC,AU,BH,BF,Option.getD_some,Bool.not_false]
   refine F8 6 (fun F' H'=>F' 1 = .ptr h.length 0 0∧F' 44 = .int .i64 m.crs.length∧F' 45 = .int .i64 (i:Nat)∧H'[h.length]? = some (.live 2 [DU m])∧ext h H'∧(∀ b,isB (F' 3) b→h.length < b)∧outG 4 IJ h (gC m (i+1)) (F' 3) H') (fun _ _=>False) ?_ ?_ (fun _ _ hh=>hh.elim)
   ·refine C9 (fun n F' H' => ∃ k,n+k=FY (szs m m.crs[i].pts)∧F' 1 = .ptr h.length 0 0∧F' 44 = .int .i64 m.crs.length∧F' 45 = .int .i64 (i:Nat)∧F' 8 = .int .i64 (i:Nat)∧F' 50 = .int .i64 (FY (szs m m.crs[i].pts):Nat)∧F' 51 = .int .i64 (k:Nat)∧H'[h.length]? = some (.live 2 [DU m])∧ext h H'∧(∀ b,isB (F' 3) b→h.length < b)∧outG 4 IJ h (gC m i ++ gCk m i m.crs[i] k) (F' 3) H') (FY (szs m m.crs[i].pts)) ⟨0,by simp,by simp -implicitDefEqProofs only [AA,↓reduceIte,Nat.reduceEqDiff,f1],by simp -implicitDefEqProofs only [AA,↓reduceIte,Nat.reduceEqDiff,f44],by simp -implicitDefEqProofs only [AA,↓reduceIte,Nat.reduceEqDiff,f45],by simp -implicitDefEqProofs only [AA,↓reduceIte,Nat.reduceEqDiff],by simp -implicitDefEqProofs only [AA,↓reduceIte,Nat.reduceEqDiff],by simp -implicitDefEqProofs only [AA,↓reduceIte]; rfl,gm,he,hlt,by rw [show gCk m i m.crs[i] 0 = [] from rfl,List.append_nil]; exact ho⟩ ?_
    clear f1 f44 f45 gm he hlt ho
    rintro n' F H ⟨k,hk,f1,f44,f45,f8,f50,f51,gm,he,hlt,ho⟩
    simp -implicitDefEqProofs only [BB,AZ,BI,A8,AY,BC,AO,AQ,AL,BD,AX,AC,AA,A7,BQ,AB,CW,↓reduceIte,Option.getD_some,Bool.not_false,enP,f50,f51]
    refine CQ (fun hc => ?_) (fun hc => ?_)
    ·have hk':k < FY (szs m m.crs[i].pts):=by simpa using hc
     have hkl:=AAD m i m.crs[i] k
     simp -implicitDefEqProofs only [BB,BP,AZ,BN,A8,AY,BC,AO,AQ,AL,BD,AX,AC,AA,A7,CB,BF,BA,BO,CE,BX,AB,List.map_cons,List.map_nil,List.append_nil,↓reduceIte,Nat.reduceEqDiff,Option.getD_some,Bool.not_false,enP,f1,f8,f51,ldM gm]
     refine (AFA G m i hi' hcg hg.full k hk' _).use ?_
     simp -implicitDefEqProofs only [List.getElem?_cons_zero,List.getElem?_cons_succ,BB,AZ,A8,AY,BC,BK,BU,CO,GN,AO,AQ,AL,BD,AX,AC,AA,A7,CB,BF,BA,BO,ET,FX,CE,BX,AB,List.map_cons,List.map_nil,List.append_nil,↓reduceIte,Nat.reduceEqDiff,Option.getD_some,Bool.not_false,enP,f1,f8,ldM gm]
     refine (ADG G m i hi' hcg _ _ (UA _ _ fun n hn=>(hfs n hn).1) _).use ?_
     simp -implicitDefEqProofs only [BI,A8,AY,BC,BK,BU,CO,GN,AO,AQ,AL,BD,AX,AC,AA,A7,AU,BL,CP,DW,H9,AB,FB,↓reduceIte,Nat.reduceEqDiff,Option.getD_some,Bool.not_false]
     cases hz:PW m m.crs[i] (NP (szs m m.crs[i].pts) k)
     ·have hgk:gCk m i m.crs[i] (k+1)=gCk m i m.crs[i] k:=by
       simp only [gCk]; rw [hz]; simp
      simp -implicitDefEqProofs only [AZ,BN,A8,D8,ED,DY,AY,BC,AO,AQ,AL,BD,AX,AC,AA,A7,AU,BH,BF,BQ,AB,CZ,↓reduceIte,Nat.reduceEqDiff,Option.getD_some,Bool.not_true,Bool.not_false,enP,f51,wrap_succ (show k < 9223372036854775807 by omega)]
      refine ⟨n' - 1,by omega,k+1,by omega,f1,f44,f45,f8,f50,rfl,gm,he,hlt,?_⟩
      rw [hgk]; exact ho
     ·have hgk:gC m i ++ gCk m i m.crs[i] (k+1)=(gC m i ++ gCk m i m.crs[i] k) ++ [mkC m i k m.crs[i]]:=by
       simp only [gCk]; rw [hz,if_pos rfl,List.append_assoc]
      obtain ⟨v',H',ha,ho',hkeep,he',hle,hb'⟩:=ho.append AP1 Y6 APU AWK (by omega) (by rw [List.length_append]; omega) he (mkC m i k m.crs[i])
      simp -implicitDefEqProofs only [FP,FZ,AZ,DX,AY,AO,AQ,AL,BD,AX,AC,AA,A7,AU,BL,BF,JI,ES,AB,↓reduceIte,Nat.reduceEqDiff,Option.getD_some,Bool.not_true,Bool.not_false,enP,f8,AWO,AZO]
      rw [show [AV.bool true,AV.int .i64 ((i:Nat):Int),AV.sl .any 1 ((NP (szs m m.crs[i].pts) k).map encI),AV.int .i64 ((k:Nat):Int)]=IJ (mkC m i k m.crs[i]) from rfl]
      simp -implicitDefEqProofs only [AY,AO,AQ,AL,BD,AX,AC,AA,A7,GU,BR,↓reduceIte,Nat.reduceEqDiff,Option.getD_some,Bool.not_false,enP,AZG _ _ (show (IJ (mkC m i k m.crs[i])).all AV.frozen=true from rfl)]
      refine F9 (v:=v') (h:=H') ha ?_
      simp -implicitDefEqProofs only [AZ,A8,D8,ED,AY,BC,AO,AQ,AL,BD,AX,AC,AA,A7,AU,BH,BF,BA,BQ,AB,CZ,↓reduceIte,Nat.reduceEqDiff,Option.getD_some,Bool.not_false,enP,f51,wrap_succ (show k < 9223372036854775807 by omega)]
      refine ⟨n' - 1,by omega,k+1,by omega,f1,f44,f45,f8,f50,rfl,hkeep _ _ gm (fun e=>by have:=hlt _ e; omega),he',fun b hbb => ?_,?_⟩
      ·have h1:=hb' b hbb; have h2:=CJ gm; omega
      ·rw [hgk]; exact ho'
    ·have hk' : ¬ k < FY (szs m m.crs[i].pts):=by simpa using hc
     have hke:k=FY (szs m m.crs[i].pts):=by omega
     simp -implicitDefEqProofs only [DC,DZ,JM,EP,AA,↓reduceIte,Nat.reduceEqDiff]
     refine ⟨f1,f44,f45,gm,he,hlt,?_⟩
     rw [hgc,← hke]; exact ho
   ·rintro F' H' ⟨g1,g44,g45,gm',he',hlt',ho'⟩
    simp -implicitDefEqProofs only [AZ,A8,D8,EN,ED,AY,BC,AO,AQ,AL,BD,AX,AC,AA,A7,AU,BH,BF,BQ,AB,CZ,↓reduceIte,Nat.reduceEqDiff,Option.getD_some,Bool.not_false,enP,g45,wrap_succ (show i < 9223372036854775807 by omega)]
    exact ⟨n - 1,by omega,i+1,by omega,g1,g44,rfl,gm',he',hlt',ho'⟩
  ·have hi' : ¬ i < m.crs.length:=by simpa using hc
   have hie:i=m.crs.length:=by omega
   subst hie
   simp -implicitDefEqProofs only [BB,AZ,BM,DC,A8,DZ,EN,EP,CU,AY,BC,AO,AQ,AL,BD,AX,AC,AA,A7,BF,BA,↓reduceIte,Nat.reduceEqDiff,Option.getD_some,Bool.not_false]
   exact ⟨he,ho⟩
end Go.Proofs.YtocilianjfhifaaGreatDoor.Cov
/- The goals of a model: the reference; no condition but the bounds on lengths. -/
set_option linter.unusedSimpArgs false
set_option maxRecDepth 8000
namespace Go.Proofs.YtocilianjfhifaaGreatDoor.Cov
open Go Go.Proofs Go.Proofs.YtocilianjfhifaaGreatDoor.Sm Go.Proofs.YtocilianjfhifaaGreatDoor.Bins Go.RowKit

theorem AZL (i k:Int) (xs:List (List AV)):KN Tryz.prog 112 [(0,.agg [.bool false,.int .i64 i,.sl .full 1 xs]),(1,.int .i64 k)]=some (.agg [.bool false,.int .i64 i,.sl .full 1 xs,.int .i64 k]):=by kernel_rfl
theorem AZM (i k:Int) (xs:List (List AV)):KN Tryz.prog 112 [(0,.agg [.bool true,.int .i64 i,.sl .any 1 xs]),(1,.int .i64 k)]=some (.agg [.bool true,.int .i64 i,.sl .any 1 xs,.int .i64 k]):=by kernel_rfl
theorem bs54 (h:Hp) (g:Gl) (hf:(IJ g).all AV.frozen=true):FO Tryz.prog false h 103 1 [(0,.agg (IJ g))]=some (.sl .full 4 [IJ g],h):=by
 have h1:Tryz.prog.underlying 103=some (.slice 112):=AP0
 unfold FO
 simp only [h1,ADW,APT]
 have h2:UE 4 0 [(0,AV.agg (IJ g))]=some [IJ g]:=rfl
 simp [h2,hf]
theorem AOQ (G:Nat→AV) (m:Mo) (hm:MoOk m) (hg:Good m) (h:Hp):PCall (En G) 81 [.agg (DU m)] h (.sl (nm (goals m)) 4 ((goals m).map IJ)):=by
 refine MS AY2 ?_
 have hm1:=hm.np
 have hm2:=hm.nc
 have hnum:=hg.num
 refine CG (H:=Hint.none) (enM G) Tryz.func81 rfl (by kernel_rfl) (by kernel_rfl) (Nat.le_of_ble_eq_true (by kernel_rfl)) ?_
 show awp _ _ _ _ _ (EU _ [.tmp 2] _)
 simp -implicitDefEqProofs only [BB,BP,AZ,A8,AY,BC,AO,AQ,AL,BD,AX,AC,A7,AU,BH,FV,BA,FK,BR,BG,Option.getD_some,Bool.not_false,enP,bxM]
 refine F8 0 (fun F H=>F 1 = .ptr h.length 0 0∧H[h.length]? = some (.live 2 [DU m])∧ext h H∧(∀ b,isB (F 3) b→h.length < b)∧outG 4 IJ h (gC m 0) (F 3) H) (fun _ _=>False) ?_ ?_ (fun _ _ hh=>hh.elim)
 ·refine C9 (fun n F H => ∃ i,n+i=m.pts.length∧F 1 = .ptr h.length 0 0∧F 4 = .int .i64 (i:Nat)∧H[h.length]? = some (.live 2 [DU m])∧ext h H∧(∀ b,isB (F 3) b→h.length < b)∧outG 4 IJ h (gP m i) (F 3) H) m.pts.length ⟨0,by simp,by simp -implicitDefEqProofs only [AA,↓reduceIte,Nat.reduceEqDiff],by simp -implicitDefEqProofs only [AA,↓reduceIte]; rfl,CX _ _,(ext.rfl' h).app _,fun b hb=>hb.elim,outG.nil _ _ _ _⟩ ?_
  rintro n F H ⟨i,hi,f1,f4,gm,he,hlt,ho⟩
  simp -implicitDefEqProofs only [BB,AZ,BI,A8,AY,BC,AO,AQ,AL,BD,AX,AC,AA,A7,BF,BO,BQ,BJ,DN,AB,CW,↓reduceIte,Nat.reduceEqDiff,Nat.add_zero,Option.getD_some,Bool.not_false,enP,QE,IG,f1,f4,AFO gm,List.length_map]
  refine CQ (fun hc => ?_) (fun hc => ?_)
  ·have hi':i < m.pts.length:=by simpa using hc
   have hgp:gP m (i+1)=gP m i ++ gPk i m.pts[i] m.pts[i].bins.length:=by
    simp only [gP]; rw [List.getElem?_eq_getElem hi']
   have h64:=(hg.full _ (List.getElem_mem hi')).2
   have hpl:=AFX hg.full i
   simp -implicitDefEqProofs only [BB,BP,AZ,BN,A8,AY,BC,AO,AQ,AL,BD,AX,AC,AU,BH,BA,Option.getD_some,Bool.not_false]
   refine F8 2 (fun F' H'=>F' 1 = .ptr h.length 0 0∧F' 4 = .int .i64 (i:Nat)∧H'[h.length]? = some (.live 2 [DU m])∧ext h H'∧(∀ b,isB (F' 3) b→h.length < b)∧outG 4 IJ h (gP m (i+1)) (F' 3) H') (fun _ _=>False) ?_ ?_ (fun _ _ hh=>hh.elim)
   ·refine C9 (fun n F' H' => ∃ k,n+k=m.pts[i].bins.length∧F' 1 = .ptr h.length 0 0∧F' 4 = .int .i64 (i:Nat)∧F' 5 = .int .i64 (k:Nat)∧H'[h.length]? = some (.live 2 [DU m])∧ext h H'∧(∀ b,isB (F' 3) b→h.length < b)∧outG 4 IJ h (gP m i ++ gPk i m.pts[i] k) (F' 3) H') m.pts[i].bins.length ⟨0,by simp,by simp -implicitDefEqProofs only [AA,↓reduceIte,Nat.reduceEqDiff,f1],by simp -implicitDefEqProofs only [AA,↓reduceIte,Nat.reduceEqDiff,f4],by simp -implicitDefEqProofs only [AA,↓reduceIte]; rfl,gm,he,hlt,by rw [show gPk i m.pts[i] 0 = [] from rfl,List.append_nil]; exact ho⟩ ?_
    clear f1 f4 gm he hlt ho
    rintro n' F H ⟨k,hk,f1,f4,f5,gm,he,hlt,ho⟩
    simp -implicitDefEqProofs only [BB,AZ,BI,A8,AY,BC,AO,AQ,AL,BD,AX,AC,AA,A7,BF,BO,BQ,BJ,BZ,DN,AB,CW,↓reduceIte,Nat.reduceEqDiff,Nat.add_zero,Nat.zero_add,Option.getD_some,Bool.not_false,enP,OJ,IG,QS,IU,f1,f4,f5,AFO gm,DJ hi',CV PO hi',ML,List.length_map]
    refine CQ (fun hc => ?_) (fun hc => ?_)
    ·have hk':k < m.pts[i].bins.length:=by simpa using hc
     have hkd:kindOf m.pts[i] k=(m.pts[i].bins[k]).kind:=by unfold kindOf; rw [List.getElem?_eq_getElem hk']
     have hkl:=AAC i m.pts[i] k
     simp -implicitDefEqProofs only [BB,BP,AZ,BN,BI,A8,AY,BC,AO,AQ,AL,BD,AX,AC,AA,A7,AU,BH,BF,BO,BQ,BJ,BZ,AB,EJ,↓reduceIte,Nat.reduceEqDiff,Nat.add_zero,Nat.zero_add,Option.getD_some,Bool.not_false,enP,OJ,IG,XD,IU,MK,f1,f4,f5,AFO gm,DJ hi',CV PO hi',ML,DJ hk',CV ag3 hk',Q3]
     cases hz:(m.pts[i].bins[k].kind == 0)
     ·have hgk:gPk i m.pts[i] (k+1)=gPk i m.pts[i] k:=by
       simp only [gPk]; rw [hkd,hz]; simp
      simp -implicitDefEqProofs only [AZ,BN,A8,D8,ED,DY,AY,BC,AO,AQ,AL,BD,AX,AC,AA,A7,AU,BH,BF,BA,BQ,AB,CZ,↓reduceIte,Nat.reduceEqDiff,Option.getD_some,Bool.not_false,enP,f5,wrap_succ (show k < 9223372036854775807 by omega)]
      refine ⟨n' - 1,by omega,k+1,by omega,f1,f4,rfl,gm,he,hlt,?_⟩
      rw [hgk]; exact ho
     ·have hgk:gP m i ++ gPk i m.pts[i] (k+1)=(gP m i ++ gPk i m.pts[i] k) ++ [mkP i k]:=by
       simp only [gPk]; rw [hkd,hz,if_pos rfl,List.append_assoc]
      obtain ⟨v',H',ha,ho',hkeep,he',hle,hb'⟩:=ho.append AP0 ADW APT AWJ (by omega) (by rw [List.length_append]; omega) he (mkP i k)
      simp -implicitDefEqProofs only [FP,FZ,AZ,DX,AY,AO,AQ,AL,BD,AX,AC,AA,A7,BF,JI,ES,BR,AB,↓reduceIte,Nat.reduceEqDiff,Option.getD_some,Bool.not_false,enP,f4,f5,ACI,AWN,AZL]
      rw [show [AV.bool false,AV.int .i64 ((i:Nat):Int),AV.sl .full 1 [[.int .i64 ((k:Nat):Int)]],AV.int .i64 ((k:Nat):Int)]=IJ (mkP i k) from rfl]
      simp -implicitDefEqProofs only [AY,AO,AQ,AL,BD,AX,AC,AA,A7,GU,BR,↓reduceIte,Nat.reduceEqDiff,Option.getD_some,Bool.not_false,enP,bs54 _ _ (show (IJ (mkP i k)).all AV.frozen=true from rfl)]
      refine F9 (v:=v') (h:=H') ha ?_
      simp -implicitDefEqProofs only [AZ,A8,D8,ED,AY,BC,AO,AQ,AL,BD,AX,AC,AA,A7,AU,BH,BF,BA,BQ,AB,CZ,↓reduceIte,Nat.reduceEqDiff,Option.getD_some,Bool.not_false,enP,f5,wrap_succ (show k < 9223372036854775807 by omega)]
      refine ⟨n' - 1,by omega,k+1,by omega,f1,f4,rfl,hkeep _ _ gm (fun e=>by have:=hlt _ e; omega),he',fun b hbb => ?_,?_⟩
      ·have h1:=hb' b hbb; have h2:=CJ gm; omega
      ·rw [hgk]; exact ho'
    ·have hk' : ¬ k < m.pts[i].bins.length:=by simpa using hc
     have hke:k=m.pts[i].bins.length:=by omega
     simp -implicitDefEqProofs only [DC,DZ,JM,EP,AA,↓reduceIte,Nat.reduceEqDiff]
     refine ⟨f1,f4,gm,he,hlt,?_⟩
     rw [hgp,← hke]; exact ho
   ·rintro F' H' ⟨g1,g4,gm',he',hlt',ho'⟩
    simp -implicitDefEqProofs only [AZ,A8,D8,EN,ED,AY,BC,AO,AQ,AL,BD,AX,AC,AA,A7,AU,BH,BF,BA,BQ,AB,CZ,↓reduceIte,Nat.reduceEqDiff,Option.getD_some,Bool.not_false,enP,g4,wrap_succ (show i < 9223372036854775807 by omega)]
    exact ⟨n - 1,by omega,i+1,by omega,g1,rfl,gm',he',hlt',ho'⟩
  ·have hi' : ¬ i < m.pts.length:=by simpa using hc
   have hie:i=m.pts.length:=by omega
   subst hie
   simp -implicitDefEqProofs only [DC,DZ,JM,EP,AA,↓reduceIte,Nat.reduceEqDiff]
   exact ⟨f1,gm,he,hlt,ho⟩
 ·rintro F H ⟨f1,gm,he,hlt,ho⟩
  simp -implicitDefEqProofs only [BB,BP,AZ,A8,EN,AY,BC,AO,AQ,AL,BD,AX,AC,AU,BH,BA,↓reduceIte,Option.getD_some,Bool.not_false]
  refine C9 (fun n F H => ∃ i,n+i=m.crs.length∧F 1 = .ptr h.length 0 0∧F 6 = .int .i64 (i:Nat)∧H[h.length]? = some (.live 2 [DU m])∧ext h H∧(∀ b,isB (F 3) b→h.length < b)∧outG 4 IJ h (gC m i) (F 3) H) m.crs.length ⟨0,by simp,by simp -implicitDefEqProofs only [AA,↓reduceIte,Nat.reduceEqDiff,f1],by simp -implicitDefEqProofs only [AA,↓reduceIte]; rfl,gm,he,hlt,ho⟩ ?_
  clear f1 gm he hlt ho
  rintro n F H ⟨i,hi,f1,f6,gm,he,hlt,ho⟩
  simp -implicitDefEqProofs only [BB,AZ,BI,A8,AY,BC,AO,AQ,AL,BD,AX,AC,AA,A7,BF,BO,BQ,BJ,DN,AB,CW,↓reduceIte,Nat.reduceEqDiff,Nat.zero_add,Option.getD_some,Bool.not_false,enP,TB,IX,f1,f6,AC8 gm,List.length_map]
  refine CQ (fun hc => ?_) (fun hc => ?_)
  ·have hi':i < m.crs.length:=by simpa using hc
   have hcg:=hg.crs _ (List.getElem_mem hi')
   have hfs:=hg.full.szs hcg.here
   have hgc:gC m (i+1)=gC m i ++ gCk m i m.crs[i] (FY (szs m m.crs[i].pts)):=by
    simp only [gC]; rw [List.getElem?_eq_getElem hi']
   have hpr:=hcg.prod
   have hcl:=AFY hg i
   simp -implicitDefEqProofs only [BB,BP,AZ,BN,A8,AY,BC,AO,AQ,AL,BD,AX,AC,AU,BH,BA,Option.getD_some,Bool.not_false]
   refine F8 6 (fun F' H'=>F' 1 = .ptr h.length 0 0∧F' 6 = .int .i64 (i:Nat)∧H'[h.length]? = some (.live 2 [DU m])∧ext h H'∧(∀ b,isB (F' 3) b→h.length < b)∧outG 4 IJ h (gC m (i+1)) (F' 3) H') (fun _ _=>False) ?_ ?_ (fun _ _ hh=>hh.elim)
   ·refine C9 (fun n F' H' => ∃ k,n+k=FY (szs m m.crs[i].pts)∧F' 1 = .ptr h.length 0 0∧F' 6 = .int .i64 (i:Nat)∧F' 7 = .int .i64 (k:Nat)∧H'[h.length]? = some (.live 2 [DU m])∧ext h H'∧(∀ b,isB (F' 3) b→h.length < b)∧outG 4 IJ h (gC m i ++ gCk m i m.crs[i] k) (F' 3) H') (FY (szs m m.crs[i].pts)) ⟨0,by simp,by simp -implicitDefEqProofs only [AA,↓reduceIte,Nat.reduceEqDiff,f1],by simp -implicitDefEqProofs only [AA,↓reduceIte,Nat.reduceEqDiff,f6],by simp -implicitDefEqProofs only [AA,↓reduceIte]; rfl,gm,he,hlt,by rw [show gCk m i m.crs[i] 0 = [] from rfl,List.append_nil]; exact ho⟩ ?_
    clear f1 f6 gm he hlt ho
    rintro n' F H ⟨k,hk,f1,f6,f7,gm,he,hlt,ho⟩
    simp -implicitDefEqProofs only [BB,AZ,AY,AO,AQ,AL,BD,AX,AC,AA,A7,CB,BF,BO,CE,BX,AB,List.map_cons,List.map_nil,List.append_nil,↓reduceIte,Nat.reduceEqDiff,Option.getD_some,Bool.not_false,enP,f1,f6,f7,ldM gm]
    refine (AAV G m i hi' hcg hg.full _).use ?_
    simp -implicitDefEqProofs only [BI,A8,AY,BC,AO,AQ,AL,BD,AX,AC,AA,A7,BQ,AB,CW,↓reduceIte,Nat.reduceEqDiff,Option.getD_some,Bool.not_false,enP]
    refine CQ (fun hc => ?_) (fun hc => ?_)
    ·have hk':k < FY (szs m m.crs[i].pts):=by simpa using hc
     have hkl:=AAD m i m.crs[i] k
     simp -implicitDefEqProofs only [BB,BP,AZ,BN,A8,AY,AO,AQ,AL,BD,AX,AC,AA,A7,CB,BF,BO,CE,BX,AB,List.map_cons,List.map_nil,List.append_nil,↓reduceIte,Nat.reduceEqDiff,Option.getD_some,Bool.not_false,enP,f1,f6,f7,ldM gm]
     refine (AG1 G m i hi' hcg hg.full k hk' _).use ?_
     simp -implicitDefEqProofs only [List.getElem?_cons_zero,List.getElem?_cons_succ,BB,AZ,A8,AY,BC,AO,AQ,AL,BD,AX,AC,AA,A7,CB,BF,BA,BO,ET,FX,CE,BX,AB,List.map_cons,List.map_nil,List.append_nil,↓reduceIte,Nat.reduceEqDiff,Option.getD_some,Bool.not_false,enP,f1,f6,ldM gm]
     refine (AGB G m i hi' hcg _ _ (UA _ _ fun n hn=>(hfs n hn).1) _).use ?_
     simp -implicitDefEqProofs only [BI,A8,AY,BC,AO,AQ,AL,BD,AX,AC,AA,A7,H9,AB,FB,↓reduceIte,Option.getD_some,Bool.not_false]
     cases hz:PW m m.crs[i] (NP (szs m m.crs[i].pts) k)
     ·have hgk:gCk m i m.crs[i] (k+1)=gCk m i m.crs[i] k:=by
       simp only [gCk]; rw [hz]; simp
      simp -implicitDefEqProofs only [AZ,BN,A8,D8,ED,DY,AY,BC,AO,AQ,AL,BD,AX,AC,AA,A7,AU,BH,BF,BA,BQ,AB,CZ,↓reduceIte,Nat.reduceEqDiff,Option.getD_some,Bool.not_true,Bool.not_false,enP,f7,wrap_succ (show k < 9223372036854775807 by omega)]
      refine ⟨n' - 1,by omega,k+1,by omega,f1,f6,rfl,gm,he,hlt,?_⟩
      rw [hgk]; exact ho
     ·have hgk:gC m i ++ gCk m i m.crs[i] (k+1)=(gC m i ++ gCk m i m.crs[i] k) ++ [mkC m i k m.crs[i]]:=by
       simp only [gCk]; rw [hz,if_pos rfl,List.append_assoc]
      obtain ⟨v',H',ha,ho',hkeep,he',hle,hb'⟩:=ho.append AP0 ADW APT AWJ (by omega) (by rw [List.length_append]; omega) he (mkC m i k m.crs[i])
      simp -implicitDefEqProofs only [FP,FZ,AZ,DX,AY,AO,AQ,AL,BD,AX,AC,AA,A7,AU,BL,BF,JI,ES,AB,↓reduceIte,Nat.reduceEqDiff,Option.getD_some,Bool.not_true,Bool.not_false,enP,f6,f7,AWO,AZM]
      rw [show [AV.bool true,AV.int .i64 ((i:Nat):Int),AV.sl .any 1 ((NP (szs m m.crs[i].pts) k).map encI),AV.int .i64 ((k:Nat):Int)]=IJ (mkC m i k m.crs[i]) from rfl]
      simp -implicitDefEqProofs only [AY,AO,AQ,AL,BD,AX,AC,AA,A7,GU,BR,↓reduceIte,Nat.reduceEqDiff,Option.getD_some,Bool.not_false,enP,bs54 _ _ (show (IJ (mkC m i k m.crs[i])).all AV.frozen=true from rfl)]
      refine F9 (v:=v') (h:=H') ha ?_
      simp -implicitDefEqProofs only [AZ,A8,D8,ED,AY,BC,AO,AQ,AL,BD,AX,AC,AA,A7,AU,BH,BF,BA,BQ,AB,CZ,↓reduceIte,Nat.reduceEqDiff,Option.getD_some,Bool.not_false,enP,f7,wrap_succ (show k < 9223372036854775807 by omega)]
      refine ⟨n' - 1,by omega,k+1,by omega,f1,f6,rfl,hkeep _ _ gm (fun e=>by have:=hlt _ e; omega),he',fun b hbb => ?_,?_⟩
      ·have h1:=hb' b hbb; have h2:=CJ gm; omega
      ·rw [hgk]; exact ho'
    ·have hk' : ¬ k < FY (szs m m.crs[i].pts):=by simpa using hc
     have hke:k=FY (szs m m.crs[i].pts):=by omega
     simp -implicitDefEqProofs only [DC,DZ,JM,EP,AA,↓reduceIte,Nat.reduceEqDiff]
     refine ⟨f1,f6,gm,he,hlt,?_⟩
     rw [hgc,← hke]; exact ho
   ·rintro F' H' ⟨g1,g6,gm',he',hlt',ho'⟩
    simp -implicitDefEqProofs only [AZ,A8,D8,EN,ED,AY,BC,AO,AQ,AL,BD,AX,AC,AA,A7,AU,BH,BF,BA,BQ,AB,CZ,↓reduceIte,Nat.reduceEqDiff,Option.getD_some,Bool.not_false,enP,g6,wrap_succ (show i < 9223372036854775807 by omega)]
    exact ⟨n - 1,by omega,i+1,by omega,g1,rfl,gm',he',hlt',ho'⟩
  ·have hi' : ¬ i < m.crs.length:=by simpa using hc
   have hie:i=m.crs.length:=by omega
   subst hie
   simp -implicitDefEqProofs only [BB,AZ,BM,DC,A8,DZ,EN,EP,CU,AY,BC,AO,AQ,AL,BD,AX,AC,AA,A7,BF,BA,↓reduceIte,Nat.reduceEqDiff,Option.getD_some,Bool.not_false]
   exact ⟨he,ho⟩
end Go.Proofs.YtocilianjfhifaaGreatDoor.Cov
