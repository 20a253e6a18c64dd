/- Part 7 of the proof (M12, M13, M14, N1, N2, N3, N4, N5, N6); no condition. -/
import Derived.Test.YtocilianjfhifaaGreatDoorV6
set_option linter.unusedVariables false
/- Coverages that fit a model: the program, given cover.tuple's contract; no condition but the bounds on lengths. -/
set_option linter.unusedSimpArgs false
set_option maxRecDepth 8000
namespace Go.Proofs.YtocilianjfhifaaGreatDoor.Cov
open Go Go.Proofs Go.Proofs.YtocilianjfhifaaGreatDoor.Sm Go.Proofs.YtocilianjfhifaaGreatDoor.Bins Go.RowKit

/-- a coverage -/
structure Cvr where
 pm:SM
 pts:List Is
 cm:SM
 crs:List Is
 sam:Int
 ill:Int
def D5 (v:Cvr):List AV := [.sl v.pm 1 (v.pts.map GG),.sl v.cm 1 (v.crs.map GG),.int .i64 v.sam,.int .i64 v.ill]
theorem AHG (v:Cvr):(D5 v)[0]? = some (.sl v.pm 1 (v.pts.map GG)):=rfl
theorem AHF (v:Cvr):(D5 v)[1]? = some (.sl v.cm 1 (v.crs.map GG)):=rfl
theorem AQH (v:Cvr):(D5 v)[2]? = some (.int .i64 v.sam):=rfl
theorem AQG (v:Cvr):(D5 v)[3]? = some (.int .i64 v.ill):=rfl
theorem JQ (v:Cvr):(D5 v).length=4:=rfl
theorem bxV (h:Hp) (v:Cvr):OH h (.agg (D5 v))=some (.ptr h.length 0 0,h ++ [.live 4 [D5 v]]):=rfl
theorem ldV {h:Hp} {b:Nat} {v:Cvr} (hb:h[b]? = some (.live 4 [D5 v])):D7 Tryz.prog h 28 (.ptr b 0 0)=some (.agg (D5 v)):=by
 rw [IK V6 PY hb rfl (by rw [JQ]; exact Nat.le_refl 4)]; rfl
/-- counts, one by one -/
def NM (p:Nat→Bool):Nat→List Int→Bool
 | _,[]=>true
 | k,n :: ns=>countB n (p k) && NM p (k+1) ns
theorem TJ (p:Nat→Bool) (l:List Int) (k:Nat) (hk:k < l.length):NM p k (l.drop k)=(countB l[k] (p k) && NM p (k+1) (l.drop (k+1))):=by
 rw [List.drop_eq_getElem_cons hk]; rfl
def J2 {α:Type} (ok:α→Is→Bool):List α→List Is→Bool
 | [],[]=>true
 | a :: ws,x :: xs=>ok a x && J2 ok ws xs
 | _,_=>false
theorem MO {α:Type} {ok:α→Is→Bool} : ∀ {ws:List α} {xs:List Is},J2 ok ws xs=true→ws.length=xs.length
 | [],[],_=>rfl
 | a :: ws,x :: xs,h=>by
   simp only [J2,Bool.and_eq_true] at h
   simp [MO h.2]
 | [],_ :: _,h=>by cases h
 | _ :: _,[],h=>by cases h
theorem TQ {α:Type} (ok:α→Is→Bool) (ws:List α) (xs:List Is) (k:Nat) (ha:k < ws.length) (hx:k < xs.length):J2 ok (ws.drop k) (xs.drop k)=(ok ws[k] xs[k] && J2 ok (ws.drop (k+1)) (xs.drop (k+1))):=by
 rw [List.drop_eq_getElem_cons ha,List.drop_eq_getElem_cons hx]; rfl
theorem VO {α:Type} (ok:α→Is→Bool) (ws:List α) (xs:List Is) (k:Nat) (ha:ws.length≤k) (hx:xs.length≤k):J2 ok (ws.drop k) (xs.drop k)=true:=by
 rw [List.drop_eq_nil_of_le ha,List.drop_eq_nil_of_le hx]; rfl
def kindOf (p:Pt) (k:Nat):Int:=match p.bins[k]? with
 | some b=>b.kind
 | none=>0
def okP (p:Pt) (x:Is):Bool:=(x.l.length == p.bins.length) && NM (fun k=>kindOf p k == 0) 0 x.l
def okC (m:Mo) (c:Cr) (x:Is):Bool:=(x.l.length == FM (szs m c.pts)) && NM (fun k=>OE m c (L9 (szs m c.pts) k)) 0 x.l
structure CvOk (v:Cvr):Prop where
 pts:v.pts.length≤1048576
 crs:v.crs.length≤1048576
 eachP : ∀ x∈v.pts,x.l.length≤1048576
 eachC : ∀ x∈v.crs,x.l.length≤1048576
theorem ANL (G:Nat→AV) (m:Mo) (l:List Is) (s:SM) (h:Hp) (hm:MoOk m) (hl : ∀ x∈l,x.l.length≤1048576):PCall (En G) 124 [.agg (DC m),.sl s 1 (l.map GG)] h (.bool (J2 okP m.pts l)):=by
 refine ACalls.pure0 rfl ?_
 have hm1:=hm.np
 refine BX (H:=Hint.none) (enM G) Tryz.func124 rfl (by kernel_rfl) (by kernel_rfl) (Nat.le_of_ble_eq_true (by kernel_rfl)) ?_
 show awp _ _ _ _ _ (EJ _ [.tmp 4] _)
 simp -implicitDefEqProofs only [A8,AX,BF,AZ,AU,A9,AL,AO,AJ,BA,AR,AC,AA,AY,AQ,BI,BB,A7,EW,BL,BN,BG,C8,BO,AB,ED,BC,BP,↓reduceIte,Nat.reduceEqDiff,Nat.add_zero,Option.getD_some,Bool.not_false,enP,OZ,GZ,WM,bxM,CX TW,O7,List.length_map]
 refine CG (fun h1 => ?_) (fun h1 => ?_)
 ·simp -implicitDefEqProofs only [A8,AX,BJ,AZ,CJ,CK,AU,A9,AL,AO,AJ,BA,AR,AC,AA,AQ,BI,A7,↓reduceIte,Option.getD_some,Bool.not_false]
  have:J2 okP m.pts l=false:=by
   rw [← Bool.not_eq_true]; intro e
   have:=MO e
   simp at h1; omega
  exact ⟨by rw [this],_,rfl⟩
 have hlen:l.length=m.pts.length:=by simp at h1; omega
 simp -implicitDefEqProofs only [A8,BM,AX,BK,AZ,AU,A9,AL,AO,AJ,BA,AR,AC,AA,AY,AQ,BD,BB,BL,BG,C8,AB,↓reduceIte,Nat.reduceEqDiff,Nat.add_zero,Option.getD_some,Bool.not_false,enP,OZ,GZ,CX TW,O7,List.length_map]
 refine CS (fun n F H => ∃ i,n+i=m.pts.length∧F 1 = .sl s 1 (l.map GG)∧F 16 = .sl m.pm 6 (m.pts.map G9)∧F 17 = .int .i64 m.pts.length∧F 18 = .int .i64 (i:Nat)∧(∃ x,H=h ++ x)∧J2 okP m.pts l=J2 okP (m.pts.drop i) (l.drop i)) m.pts.length ⟨0,by simp,by simp -implicitDefEqProofs only [AA,BC,BP,↓reduceIte,Nat.reduceEqDiff],by simp -implicitDefEqProofs only [AA,↓reduceIte,Nat.reduceEqDiff],by simp -implicitDefEqProofs only [AA,↓reduceIte,Nat.reduceEqDiff],by simp -implicitDefEqProofs only [AA,↓reduceIte]; rfl,⟨_,rfl⟩,rfl⟩ ?_
 rintro n F H ⟨i,hi,f1,f16,f17,f18,hx,hf⟩
 simp -implicitDefEqProofs only [A8,AX,BF,AZ,AU,A9,AL,AO,AJ,BA,AR,AC,AA,AY,BN,AB,CO,↓reduceIte,Option.getD_some,Bool.not_false,enP,f17,f18]
 refine CG (fun hc => ?_) (fun hc => ?_)
 ·have hi':i < m.pts.length:=by simpa using hc
  have hil:i < l.length:=by omega
  rw [TQ okP m.pts l i hi' hil] at hf
  have hx1 : ∃ x,H ++ [ABlk.live 6 [G9 m.pts[i]]]=h ++ x:=by
   obtain ⟨x,rfl⟩:=hx
   exact ⟨_,List.append_assoc _ _ _⟩
  have hxl:=hl _ (List.getElem_mem hil)
  simp -implicitDefEqProofs only [A8,BM,AX,BK,AZ,AU,A9,AL,AO,AJ,BA,AR,AC,EQ,AA,AY,BB,A7,FL,BL,EC,BU,BO,AB,DF,↓reduceIte,Nat.reduceEqDiff,Option.getD_some,Bool.not_false,enP,MV,Option.getD_none,f16,f18,CW hi',ES AE9 X3 JJ hi',AT3,ARZ _ _ [.str ⟨#[]⟩,.int .i64 0,.int .i64 0,.str ⟨#[]⟩,.sl .nil 0 [],.sl .nil 0 []] rfl]
  refine EG (by kernel_rfl) ?_
  simp -implicitDefEqProofs only [FJ,DT,CZ,EO,DV,ET,EN,GK,DW,DN,FX,BF,AZ,AL,AA,AY,BL,BN,BG,BU,C8,AB,ED,↓reduceIte,Nat.reduceEqDiff,Nat.reduceAdd,Nat.zero_add,Option.getD_some,enP,PK,PI,HZ,GV,f1,CW hil,CP KA hil,LH,CX NW,K3,List.length_map]
  refine CG (fun h2 => ?_) (fun h2 => ?_)
  ·simp -implicitDefEqProofs only [A8,AX,BJ,AZ,CJ,D6,EZ,CK,AU,A9,AL,AO,AJ,BA,AR,AC,AA,AQ,BI,A7,↓reduceIte,Option.getD_some,Bool.not_false]
   have:okP m.pts[i] l[i]=false:=by
    have:(l[i].l.length == m.pts[i].bins.length)=false:=by
     rw [beq_eq_false_iff_ne]; intro e; simp [e] at h2
    unfold okP; rw [this]; rfl
   exact ⟨by rw [hf,this]; rfl,hx1⟩
  have hbl:l[i].l.length=m.pts[i].bins.length:=by simp at h2; omega
  have hok:okP m.pts[i] l[i]=NM (fun k=>kindOf m.pts[i] k == 0) 0 l[i].l:=by
   unfold okP; rw [beq_iff_eq.2 hbl]; rfl
  simp -implicitDefEqProofs only [A8,BM,AX,BK,AZ,AU,A9,AL,AO,AJ,BA,AR,AC,AA,AY,AQ,BD,BB,BL,BU,C8,AB,↓reduceIte,Nat.reduceEqDiff,Option.getD_some,Bool.not_false,enP,PK,GV,f1,CW hil,CP KA hil,LH,List.length_map]
  refine FO 2 (fun F' H'=>F' 1 = .sl s 1 (l.map GG)∧F' 16 = .sl m.pm 6 (m.pts.map G9)∧F' 17 = .int .i64 m.pts.length∧F' 18 = .int .i64 (i:Nat)∧H'=H ++ [.live 6 [G9 m.pts[i]]]∧okP m.pts[i] l[i]=true) (fun F' H'=>F' 4 = .bool false∧H'=H ++ [.live 6 [G9 m.pts[i]]]∧okP m.pts[i] l[i]=false) ?_ ?_ ?_
  ·refine CS (fun n F' H' => ∃ k,n+k=l[i].l.length∧F' 1 = .sl s 1 (l.map GG)∧F' 16 = .sl m.pm 6 (m.pts.map G9)∧F' 17 = .int .i64 m.pts.length∧F' 18 = .int .i64 (i:Nat)∧F' 6 = .ptr H.length 0 0∧F' 35 = .sl l[i].m 1 (l[i].l.map encI)∧F' 36 = .int .i64 l[i].l.length∧F' 37 = .int .i64 (k:Nat)∧H'=H ++ [.live 6 [G9 m.pts[i]]]∧okP m.pts[i] l[i]=NM (fun k=>kindOf m.pts[i] k == 0) k (l[i].l.drop k)) l[i].l.length ⟨0,by simp,by simp -implicitDefEqProofs only [AA,↓reduceIte,Nat.reduceEqDiff,f1],by simp -implicitDefEqProofs only [AA,↓reduceIte,Nat.reduceEqDiff,f16],by simp -implicitDefEqProofs only [AA,↓reduceIte,Nat.reduceEqDiff,f17],by simp -implicitDefEqProofs only [AA,↓reduceIte,Nat.reduceEqDiff,f18],by simp -implicitDefEqProofs only [AA,↓reduceIte,Nat.reduceEqDiff],by simp -implicitDefEqProofs only [AA,↓reduceIte,Nat.reduceEqDiff],by simp -implicitDefEqProofs only [AA,↓reduceIte,Nat.reduceEqDiff],by simp -implicitDefEqProofs only [AA,↓reduceIte]; rfl,rfl,hok⟩ ?_
   clear f1 f16 f17 f18
   rintro n' F H' ⟨k,hk,f1,f16,f17,f18,f6,f35,f36,f37,rfl,hr⟩
   simp -implicitDefEqProofs only [A8,AX,BF,AZ,AU,A9,AL,AO,AJ,BA,AR,AC,AA,AY,BN,AB,CO,↓reduceIte,Option.getD_some,Bool.not_false,enP,f36,f37]
   refine CG (fun hc => ?_) (fun hc => ?_)
   ·have hk':k < l[i].l.length:=by simpa using hc
    have hkb:k < m.pts[i].bins.length:=by omega
    have hkd:kindOf m.pts[i] k=(m.pts[i].bins[k]).kind:=by unfold kindOf; rw [List.getElem?_eq_getElem hkb]
    rw [TJ _ _ _ hk',hkd] at hr
    simp -implicitDefEqProofs only [A8,BM,AX,BK,AZ,AU,A9,AL,AO,AJ,BA,AR,AC,AA,AY,BS,BB,A7,BL,BG,BU,BV,BR,AB,List.map_cons,List.map_nil,List.append_nil,↓reduceIte,Nat.reduceEqDiff,Nat.zero_add,Option.getD_some,Bool.not_false,enP,VH,HZ,IL,f6,f35,f37,CW hk',CP ag3 hk',encI0,CX NW,K3,CW hkb,ES XX R4 K7 hkb]
    refine (XR G _ _).use ?_
    simp -implicitDefEqProofs only [AU,AL,AO,AJ,BA,AR,AC,AA,AY,BS,BV,BR,List.map_cons,List.map_nil,List.append_nil,↓reduceIte,Nat.reduceEqDiff,Option.getD_some,Bool.not_false]
    refine (RB G _ _ _).use ?_
    simp -implicitDefEqProofs only [BF,AZ,AU,A9,AL,AO,AJ,BA,AR,AC,AA,AY,F9,AB,ER,↓reduceIte,Option.getD_some,Bool.not_false]
    cases hcb:countB l[i].l[k] (m.pts[i].bins[k].kind == 0)
    ·simp -implicitDefEqProofs only [A8,AX,BJ,AZ,CJ,D6,KC,EZ,DI,AU,A9,AL,AO,AJ,BA,AR,AC,AA,AQ,BI,A7,↓reduceIte,Option.getD_some,Bool.not_false]
     exact ⟨trivial,trivial,by rw [hr,hcb]; rfl⟩
    ·simp -implicitDefEqProofs only [AX,BK,AZ,DU,DZ,DL,AU,A9,AL,AO,AJ,BA,AR,AC,AA,AY,AQ,BD,BB,BN,AB,CR,↓reduceIte,Nat.reduceEqDiff,Option.getD_some,Bool.not_true,Bool.not_false,enP,f37,CB (show k < 9223372036854775807 by omega)]
     exact ⟨n' - 1,by omega,k+1,by omega,f1,f16,f17,f18,f6,f35,f36,rfl,trivial,by rw [hr,hcb]; rfl⟩
   ·have hk' : ¬ k < l[i].l.length:=by simpa using hc
    simp -implicitDefEqProofs only [CU,DR,II,EF,AA,↓reduceIte,Nat.reduceEqDiff]
    exact ⟨f1,f16,f17,f18,trivial,by rw [hr,List.drop_eq_nil_of_le (by omega)]; rfl⟩
  ·rintro F' H' ⟨g1,g16,g17,g18,rfl,hr⟩
   simp -implicitDefEqProofs only [AX,AZ,DU,EB,DZ,AU,A9,AL,AO,AJ,BA,AR,AC,AA,AY,AQ,BD,BB,BN,AB,CR,↓reduceIte,Nat.reduceEqDiff,Option.getD_some,Bool.not_false,enP,g18,CB (show i < 9223372036854775807 by omega)]
   exact ⟨n - 1,by omega,i+1,by omega,g1,g16,g17,rfl,hx1,by rw [hf,hr]; rfl⟩
  ·rintro F' H' ⟨g4,rfl,hr⟩
   simp -implicitDefEqProofs only [CJ,D6,EZ,CK,g4]
   exact ⟨by rw [hf,hr]; rfl,hx1⟩
 ·have hi' : ¬ i < m.pts.length:=by simpa using hc
  simp -implicitDefEqProofs only [A8,AX,BJ,CU,AZ,DR,EB,EF,CK,AU,A9,AL,AO,AJ,BA,AR,AC,AA,AQ,BI,A7,↓reduceIte,Option.getD_some,Bool.not_false]
  exact ⟨by rw [hf,VO okP _ _ i (by omega) (by omega)],hx⟩
end Go.Proofs.YtocilianjfhifaaGreatDoor.Cov
/- Coverages that fit a model: crosses, and the whole; the program, given cover.tuple's contract; no condition but the variables that are laid and the bounds on lengths. -/
set_option linter.unusedSimpArgs false
set_option maxRecDepth 8000
namespace Go.Proofs.YtocilianjfhifaaGreatDoor.Cov
open Go Go.Proofs Go.Proofs.YtocilianjfhifaaGreatDoor.Sm Go.Proofs.YtocilianjfhifaaGreatDoor.Bins Go.RowKit

/-- the contract of cover.tuple -/
def I4 (G:Nat→AV):Prop := ∀ (ns:List Nat) (s:SM) (K:Nat) (h:Hp),0 < ns.length→ns.length≤4→(∀ n∈ns,1≤n∧n≤64)→K≤1048576 →
 PCall (En G) 168 [.sl s 1 (ns.map EU),.int .i64 (K:Int)] h (.sl .any 1 ((L9 ns K).map encI))
structure CrGood (m:Mo) (c:Cr):Prop where
 here:Here m c.pts
 two:2≤c.pts.length
 four:c.pts.length≤4
 prod:FM (szs m c.pts)≤256
 num:c.excl.length≤256
 excl : ∀ x∈c.excl,KM (szs m c.pts) x.l=true
theorem ANW {m:Mo} {c:Cr} (h:GL m c=0):CrGood m c:=by
 unfold GL at h
 split at h
 ·cases h
 ·split at h
  ·cases h
  ·split at h
   ·cases h
   ·split at h
    ·cases h
    ·split at h
     ·cases h
     ·rename_i h1 h2 h3 h4 h5
      have h3':SF m.pts.length none c.pts=true:=by simpa using h3
      refine ⟨TM h3',by omega,by omega,by omega,by omega,fun x hx => ?_⟩
      rw [Bool.not_eq_true,List.any_eq_false] at h5
      have:=h5 x hx
      simpa using this
structure Good (m:Mo):Prop where
 num:m.pts.length+m.crs.length≤16
 full:Full m
 crs : ∀ c∈m.crs,CrGood m c
theorem JF {m:Mo} (h:FH m=0):Good m:=by
 unfold FH at h
 split at h
 ·cases h
 ·split at h
  ·rename_i h2; exact absurd h h2
  ·split at h
   ·cases h
   ·split at h
    ·rename_i h4; exact absurd h h4
    ·rename_i h1 h2 h3 h4
     refine ⟨by omega,full_of (by simpa using h2),fun c hc=>ANW (AAK _ (by simpa using h4) c hc)⟩
theorem ANM (G:Nat→AV) (hT:I4 G) (m:Mo) (l:List Is) (s:SM) (h:Hp) (hm:MoOk m) (hg:Good m) (hl : ∀ x∈l,x.l.length≤1048576):PCall (En G) 125 [.agg (DC m),.sl s 1 (l.map GG)] h (.bool (J2 (okC m) m.crs l)):=by
 refine ACalls.pure0 rfl ?_
 have hm1:=hm.nc
 refine BX (H:=Hint.none) (enM G) Tryz.func125 rfl (by kernel_rfl) (by kernel_rfl) (Nat.le_of_ble_eq_true (by kernel_rfl)) ?_
 show awp _ _ _ _ _ (EJ _ [.tmp 4] _)
 simp -implicitDefEqProofs only [A8,AX,BF,AZ,AU,A9,AL,AO,AJ,BA,AR,AC,AA,AY,AQ,BI,BB,A7,EW,BL,BN,BG,C8,BO,AB,ED,BC,BP,↓reduceIte,Nat.reduceEqDiff,Nat.zero_add,Option.getD_some,Bool.not_false,enP,Q5,H7,WM,bxM,CX XA,RO,List.length_map]
 refine CG (fun h1 => ?_) (fun h1 => ?_)
 ·simp -implicitDefEqProofs only [A8,AX,BJ,AZ,CJ,CK,AU,A9,AL,AO,AJ,BA,AR,AC,AA,AQ,BI,A7,↓reduceIte,Option.getD_some,Bool.not_false]
  have:J2 (okC m) m.crs l=false:=by
   rw [← Bool.not_eq_true]; intro e
   have:=MO e
   simp at h1; omega
  exact ⟨by rw [this],_,rfl⟩
 have hlen:l.length=m.crs.length:=by simp at h1; omega
 simp -implicitDefEqProofs only [A8,BM,AX,BK,AZ,AU,A9,AL,AO,AJ,BA,AR,AC,AA,AY,AQ,BD,BB,BL,BG,C8,AB,↓reduceIte,Nat.reduceEqDiff,Nat.zero_add,Option.getD_some,Bool.not_false,enP,Q5,H7,CX XA,RO,List.length_map]
 refine CS (fun n F H => ∃ i,n+i=m.crs.length∧F 1 = .sl s 1 (l.map GG)∧F 2 = .ptr h.length 0 0∧F 17 = .sl m.cm 3 (m.crs.map GH)∧F 18 = .int .i64 m.crs.length∧F 19 = .int .i64 (i:Nat)∧H[h.length]? = some (.live 2 [DC m])∧(∃ x,H=h ++ x)∧J2 (okC m) m.crs l=J2 (okC m) (m.crs.drop i) (l.drop i)) m.crs.length ⟨0,by simp,by simp -implicitDefEqProofs only [AA,BC,BP,↓reduceIte,Nat.reduceEqDiff],by simp -implicitDefEqProofs only [AA,↓reduceIte,Nat.reduceEqDiff],by simp -implicitDefEqProofs only [AA,↓reduceIte,Nat.reduceEqDiff],by simp -implicitDefEqProofs only [AA,↓reduceIte,Nat.reduceEqDiff],by simp -implicitDefEqProofs only [AA,↓reduceIte]; rfl,CQ _ _,⟨_,rfl⟩,rfl⟩ ?_
 rintro n F H ⟨i,hi,f1,f2,f17,f18,f19,gm,hx,hf⟩
 simp -implicitDefEqProofs only [A8,AX,BF,AZ,AU,A9,AL,AO,AJ,BA,AR,AC,AA,AY,BN,AB,CO,↓reduceIte,Option.getD_some,Bool.not_false,enP,f18,f19]
 refine CG (fun hc => ?_) (fun hc => ?_)
 ·have hi':i < m.crs.length:=by simpa using hc
  have hil:i < l.length:=by omega
  rw [TQ (okC m) m.crs l i hi' hil] at hf
  have hcg:=hg.crs _ (List.getElem_mem hi')
  have hfs:=hg.full.szs hcg.here
  have hsl:=JE m m.crs[i].pts
  have hx1 : ∃ x,H ++ [ABlk.live 3 [GH m.crs[i]]]=h ++ x:=by
   obtain ⟨x,rfl⟩:=hx
   exact ⟨_,List.append_assoc _ _ _⟩
  have hxl:=hl _ (List.getElem_mem hil)
  have gm1:(H ++ [ABlk.live 3 [GH m.crs[i]]])[h.length]? = some (.live 2 [DC m]):=C9 gm
  have gc1:=CQ H (.live 3 [GH m.crs[i]])
  have htwo:=hcg.two
  have hfour:=hcg.four
  have hpr:=hcg.prod
  simp -implicitDefEqProofs only [A8,BM,AX,BK,AZ,AU,A9,AL,AO,AJ,BA,AR,AC,EQ,AA,AY,BS,BB,A7,FL,BL,EC,BU,BV,BR,BO,AB,DF,List.map_cons,List.map_nil,List.append_nil,↓reduceIte,Nat.reduceEqDiff,Option.getD_some,Bool.not_false,enP,P7,Option.getD_none,f2,f17,f19,CW hi',ES ABC WE JR hi',AT2,ARY _ _ [.str ⟨#[]⟩,.sl .nil 0 [],.sl .nil 0 []] rfl,ldM gm1,ldC gc1]
  refine (UL G m _ _ hcg.here (by omega)).use ?_
  simp -implicitDefEqProofs only [A8,AZ,AU,A9,AL,AO,AJ,BA,AR,AC,AA,AY,A7,↓reduceIte,Option.getD_some,Bool.not_false]
  refine EG (by kernel_rfl) ?_
  simp -implicitDefEqProofs only [FJ,DT,CZ,DV,ET,EN,GK,DN,FX,FP,FD,AL,AA,AY,BS,BL,BN,BU,C8,AB,List.map_cons,List.map_nil,List.append_nil,↓reduceIte,Nat.reduceEqDiff,Nat.reduceAdd,Option.getD_some,enP,PK,GV,f1,CW hil,CP KA hil,LH,List.length_map]
  refine ⟨_,Q3 G _ _ _ (fun n hn=>(hfs n hn).2) (by omega),?_⟩
  try simp -implicitDefEqProofs only [CZ,EO,BF,AZ,AA,AY,AB,ED,↓reduceIte]
  refine CG (fun h2 => ?_) (fun h2 => ?_)
  ·simp -implicitDefEqProofs only [A8,AX,BJ,AZ,CJ,D6,EZ,CK,AU,A9,AL,AO,AJ,BA,AR,AC,AA,AQ,BI,A7,↓reduceIte,Option.getD_some,Bool.not_false]
   have:okC m m.crs[i] l[i]=false:=by
    have:(l[i].l.length == FM (szs m m.crs[i].pts))=false:=by
     rw [beq_eq_false_iff_ne]; intro e; simp [e] at h2
    unfold okC; rw [this]; rfl
   exact ⟨by rw [hf,this]; rfl,hx1⟩
  have hbl:l[i].l.length=FM (szs m m.crs[i].pts):=by simp at h2; omega
  have hok:okC m m.crs[i] l[i]=NM (fun k=>OE m m.crs[i] (L9 (szs m m.crs[i].pts) k)) 0 l[i].l:=by
   unfold okC; rw [beq_iff_eq.2 hbl]; rfl
  simp -implicitDefEqProofs only [A8,BM,AX,BK,AZ,AU,A9,AL,AO,AJ,BA,AR,AC,AA,AY,AQ,BD,BB,BL,BU,C8,AB,↓reduceIte,Nat.reduceEqDiff,Option.getD_some,Bool.not_false,enP,PK,GV,f1,CW hil,CP KA hil,LH,List.length_map]
  refine FO 2 (fun F' H'=>F' 1 = .sl s 1 (l.map GG)∧F' 2 = .ptr h.length 0 0∧F' 17 = .sl m.cm 3 (m.crs.map GH)∧F' 18 = .int .i64 m.crs.length∧F' 19 = .int .i64 (i:Nat)∧H'=H ++ [.live 3 [GH m.crs[i]]]∧okC m m.crs[i] l[i]=true) (fun F' H'=>F' 4 = .bool false∧H'=H ++ [.live 3 [GH m.crs[i]]]∧okC m m.crs[i] l[i]=false) ?_ ?_ ?_
  ·refine CS (fun n F' H' => ∃ k,n+k=l[i].l.length∧F' 1 = .sl s 1 (l.map GG)∧F' 2 = .ptr h.length 0 0∧F' 17 = .sl m.cm 3 (m.crs.map GH)∧F' 18 = .int .i64 m.crs.length∧F' 19 = .int .i64 (i:Nat)∧F' 6 = .ptr H.length 0 0∧F' 7 = .sl (nm (szs m m.crs[i].pts)) 1 ((szs m m.crs[i].pts).map EU)∧F' 38 = .sl l[i].m 1 (l[i].l.map encI)∧F' 39 = .int .i64 l[i].l.length∧F' 40 = .int .i64 (k:Nat)∧H'=H ++ [.live 3 [GH m.crs[i]]]∧okC m m.crs[i] l[i]=NM (fun k=>OE m m.crs[i] (L9 (szs m m.crs[i].pts) k)) k (l[i].l.drop k)) l[i].l.length ⟨0,by simp,by simp -implicitDefEqProofs only [AA,↓reduceIte,Nat.reduceEqDiff,f1],by simp -implicitDefEqProofs only [AA,↓reduceIte,Nat.reduceEqDiff,f2],by simp -implicitDefEqProofs only [AA,↓reduceIte,Nat.reduceEqDiff,f17],by simp -implicitDefEqProofs only [AA,↓reduceIte,Nat.reduceEqDiff,f18],by simp -implicitDefEqProofs only [AA,↓reduceIte,Nat.reduceEqDiff,f19],by simp -implicitDefEqProofs only [AA,↓reduceIte,Nat.reduceEqDiff],by simp -implicitDefEqProofs only [AA,↓reduceIte,Nat.reduceEqDiff],by simp -implicitDefEqProofs only [AA,↓reduceIte,Nat.reduceEqDiff],by simp -implicitDefEqProofs only [AA,↓reduceIte,Nat.reduceEqDiff],by simp -implicitDefEqProofs only [AA,↓reduceIte]; rfl,rfl,hok⟩ ?_
   clear f1 f2 f17 f18 f19
   rintro n' F H' ⟨k,hk,f1,f2,f17,f18,f19,f6,f7,f38,f39,f40,rfl,hr⟩
   simp -implicitDefEqProofs only [A8,AX,BF,AZ,AU,A9,AL,AO,AJ,BA,AR,AC,AA,AY,BN,AB,CO,↓reduceIte,Option.getD_some,Bool.not_false,enP,f39,f40]
   refine CG (fun hc => ?_) (fun hc => ?_)
   ·have hk':k < l[i].l.length:=by simpa using hc
    rw [TJ _ _ _ hk'] at hr
    simp -implicitDefEqProofs only [A8,BM,AX,BK,AZ,AU,A9,AL,AO,AJ,BA,AR,AC,AA,AY,BB,A7,BL,BU,AB,↓reduceIte,Nat.reduceEqDiff,Option.getD_some,Bool.not_false,enP,IL,f38,f40,CW hk',CP ag3 hk',encI0]
    refine EG (by kernel_rfl) ?_
    simp -implicitDefEqProofs only [FJ,DT,CZ,DV,ET,EN,ADV,FP,FD,AL,AA,AY,BS,BL,F9,AB,List.map_cons,List.map_nil,List.append_nil,↓reduceIte,Nat.reduceEqDiff,Nat.reduceAdd,Option.getD_some,enP,f2,f6,f7,ldM gm1,ldC gc1]
    refine ⟨_,hT _ _ k _ (by omega) (by omega) hfs (by omega),?_⟩
    try simp -implicitDefEqProofs only []
    refine ⟨_,ABW G m m.crs[i] _ _ _ hcg.here (R3 _ _ fun n hn=>(hfs n hn).1) (by omega) (by have:=hcg.num; omega),?_⟩
    try simp -implicitDefEqProofs only []
    refine ⟨_,RB G _ _ _,?_⟩
    try simp -implicitDefEqProofs only [CZ,EO,BF,AZ,AA,AY,AB,ER,↓reduceIte]
    cases hcb:countB l[i].l[k] (OE m m.crs[i] (L9 (szs m m.crs[i].pts) k))
    ·simp -implicitDefEqProofs only [A8,AX,BJ,AZ,CJ,D6,KC,EZ,DI,AU,A9,AL,AO,AJ,BA,AR,AC,AA,AQ,BI,A7,↓reduceIte,Option.getD_some,Bool.not_false]
     exact ⟨trivial,trivial,by rw [hr,hcb]; rfl⟩
    ·simp -implicitDefEqProofs only [AX,BK,AZ,DU,DZ,DL,AU,A9,AL,AO,AJ,BA,AR,AC,AA,AY,AQ,BD,BB,BN,AB,CR,↓reduceIte,Nat.reduceEqDiff,Option.getD_some,Bool.not_true,Bool.not_false,enP,f40,CB (show k < 9223372036854775807 by omega)]
     exact ⟨n' - 1,by omega,k+1,by omega,f1,f2,f17,f18,f19,f6,f7,f38,f39,rfl,trivial,by rw [hr,hcb]; rfl⟩
   ·have hk' : ¬ k < l[i].l.length:=by simpa using hc
    simp -implicitDefEqProofs only [CU,DR,II,EF,AA,↓reduceIte,Nat.reduceEqDiff]
    exact ⟨f1,f2,f17,f18,f19,trivial,by rw [hr,List.drop_eq_nil_of_le (by omega)]; rfl⟩
  ·rintro F' H' ⟨g1,g2,g17,g18,g19,rfl,hr⟩
   simp -implicitDefEqProofs only [AX,AZ,DU,EB,DZ,AU,A9,AL,AO,AJ,BA,AR,AC,AA,AY,AQ,BD,BB,BN,AB,CR,↓reduceIte,Nat.reduceEqDiff,Option.getD_some,Bool.not_false,enP,g19,CB (show i < 9223372036854775807 by omega)]
   exact ⟨n - 1,by omega,i+1,by omega,g1,g2,g17,g18,rfl,gm1,hx1,by rw [hf,hr]; rfl⟩
  ·rintro F' H' ⟨g4,rfl,hr⟩
   simp -implicitDefEqProofs only [CJ,D6,EZ,CK,g4]
   exact ⟨by rw [hf,hr]; rfl,hx1⟩
 ·have hi' : ¬ i < m.crs.length:=by simpa using hc
  simp -implicitDefEqProofs only [A8,AX,BJ,CU,AZ,DR,EB,EF,CK,AU,A9,AL,AO,AJ,BA,AR,AC,AA,AQ,BI,A7,↓reduceIte,Option.getD_some,Bool.not_false]
  exact ⟨by rw [hf,VO (okC m) _ _ i (by omega) (by omega)],hx⟩
def E9 (m:Mo) (v:Cvr):Bool:=(FH m == 0) && J2 okP m.pts v.pts && J2 (okC m) m.crs v.crs && GR v.sam && GR v.ill
theorem XT (n:Int):countB n true=GR n:=by unfold countB; simp
theorem TP (G:Nat→AV) (hG:GOk G) (hT:I4 G) (m:Mo) (v:Cvr) (hm:MoOk m) (hv:CvOk v) (h:Hp):PCall (En G) 66 [.agg (DC m),.agg (D5 v)] h (.bool (E9 m v)):=by
 refine ACalls.pure0 rfl ?_
 refine BX (H:=Hint.none) (enM G) Tryz.func66 rfl (by kernel_rfl) (by kernel_rfl) (Nat.le_of_ble_eq_true (by kernel_rfl)) ?_
 show awp _ _ _ _ _ (EJ _ [.tmp 4] _)
 have gm:(h ++ [ABlk.live 2 [DC m]] ++ [ABlk.live 4 [D5 v]])[h.length]? = some (.live 2 [DC m]):=C9 (CQ _ _)
 have gv:=CQ (h ++ [ABlk.live 2 [DC m]]) (.live 4 [D5 v])
 have hx : ∃ x,h ++ [ABlk.live 2 [DC m]] ++ [ABlk.live 4 [D5 v]]=h ++ x:=⟨_,List.append_assoc _ _ _⟩
 simp -implicitDefEqProofs only [A8,AX,AZ,AU,A9,AL,AO,AJ,BA,AR,AC,AA,AY,AQ,BI,A7,EW,BL,BO,BC,BP,↓reduceIte,Nat.reduceEqDiff,Option.getD_some,Bool.not_false,enP,bxM,bxV]
 generalize h ++ [ABlk.live 2 [DC m]] ++ [ABlk.live 4 [D5 v]]=H at gm gv hx ⊢
 generalize (h ++ [ABlk.live 2 [DC m]]).length=vb at gv ⊢
 have l0:D7 Tryz.prog H 26 (.ptr vb 0 0)=some (.sl v.pm 1 (v.pts.map GG)):=by rw [DX QR gv (row:=D5 v) rfl,AHG]
 have l1:D7 Tryz.prog H 26 (.ptr vb 0 1)=some (.sl v.cm 1 (v.crs.map GG)):=by rw [DX QR gv (row:=D5 v) rfl,AHF]
 have l2:D7 Tryz.prog H 3 (.ptr vb 0 2)=some (.int .i64 v.sam):=by rw [DX ag3 gv (row:=D5 v) rfl,AQH]
 have l3:D7 Tryz.prog H 3 (.ptr vb 0 3)=some (.int .i64 v.ill):=by rw [DX ag3 gv (row:=D5 v) rfl,AQG]
 simp -implicitDefEqProofs only [AU,AL,AO,AJ,BA,AR,AC,AA,AY,BS,BV,BR,AB,List.map_cons,List.map_nil,List.append_nil,↓reduceIte,Option.getD_some,Bool.not_false,ldM gm]
 refine (UQ G hG m hm _).use ?_
 simp -implicitDefEqProofs only [AU,BH,BQ,BZ,AL,AO,AJ,BA,AR,AC,AA,AY,AQ,BD,BB,BN,AB,D9,↓reduceIte,Option.getD_some,Bool.not_false,enP]
 cases h1:(FH m == 0)
 ·simp -implicitDefEqProofs only [BJ,AZ,CK,AU,A9,BH,BQ,BZ,IQ,AL,AO,AJ,BA,AR,AC,AA,EM,AY,AQ,BI,BB,A7,CF,DK,↓reduceIte,Nat.reduceEqDiff,Option.getD_some,Bool.not_false]
  exact ⟨by unfold E9; rw [h1]; rfl,hx⟩
 have hg:=JF (beq_iff_eq.1 h1)
 simp -implicitDefEqProofs only [BH,BQ,BZ,FZ,AL,AO,AJ,BA,AR,AC,AA,AY,BS,BL,BG,BV,BR,AB,List.map_cons,List.map_nil,List.append_nil,↓reduceIte,Nat.reduceEqDiff,Nat.add_zero,Option.getD_some,Bool.not_false,enP,NA,ldM gm,l0]
 refine (ANL G m v.pts v.pm _ hm hv.eachP).use ?_
 simp -implicitDefEqProofs only [AU,BH,BQ,BZ,AL,AO,AJ,BA,AR,AC,AA,AY,AQ,BI,BB,CF,DJ,↓reduceIte,Nat.reduceEqDiff,Option.getD_some,Bool.not_false]
 cases h2:J2 okP m.pts v.pts
 ·simp -implicitDefEqProofs only [BJ,AZ,CK,AU,A9,BH,BQ,BZ,IQ,AL,AO,AJ,BA,AR,AC,AA,EM,AY,AQ,BI,BB,A7,CF,DK,↓reduceIte,Nat.reduceEqDiff,Option.getD_some,Bool.not_false]
  exact ⟨by unfold E9; rw [h1,h2]; rfl,hx⟩
 simp -implicitDefEqProofs only [BH,BQ,BZ,FZ,AL,AO,AJ,BA,AR,AC,AA,AY,BS,BL,BG,BV,BR,AB,List.map_cons,List.map_nil,List.append_nil,↓reduceIte,Nat.reduceEqDiff,Nat.zero_add,Option.getD_some,Bool.not_false,enP,ME,ldM gm,l1]
 refine (ANM G hT m v.crs v.cm _ hm hg hv.eachC).use ?_
 simp -implicitDefEqProofs only [AU,BH,BQ,BZ,AL,AO,AJ,BA,AR,AC,AA,AY,AQ,BI,BB,CF,DJ,↓reduceIte,Nat.reduceEqDiff,Option.getD_some,Bool.not_false]
 cases h3:J2 (okC m) m.crs v.crs
 ·simp -implicitDefEqProofs only [BJ,AZ,CK,AU,A9,BH,BQ,BZ,IQ,AL,AO,AJ,BA,AR,AC,AA,EM,AY,AQ,BI,BB,A7,CF,DK,↓reduceIte,Nat.reduceEqDiff,Option.getD_some,Bool.not_false]
  exact ⟨by unfold E9; rw [h1,h2,h3]; rfl,hx⟩
 simp -implicitDefEqProofs only [BH,BQ,BZ,FZ,AL,AO,AJ,BA,AR,AC,AA,AY,AQ,BS,BI,BL,BG,BV,BR,AB,List.map_cons,List.map_nil,List.append_nil,↓reduceIte,Nat.reduceEqDiff,Nat.zero_add,Option.getD_some,Bool.not_false,enP,WR,l2]
 refine (RB G _ _ _).use ?_
 simp -implicitDefEqProofs only [AU,BH,BQ,BZ,AL,AO,AJ,BA,AR,AC,AA,AY,AQ,BI,BB,CF,DJ,↓reduceIte,Nat.reduceEqDiff,Option.getD_some,Bool.not_false,XT]
 cases h4:GR v.sam
 ·simp -implicitDefEqProofs only [BJ,AZ,CK,AU,A9,BH,BQ,BZ,IQ,AL,AO,AJ,BA,AR,AC,AA,EM,AY,AQ,BI,A7,CF,DK,↓reduceIte,Nat.reduceEqDiff,Option.getD_some,Bool.not_false]
  exact ⟨by unfold E9; rw [h1,h2,h3,h4]; rfl,hx⟩
 simp -implicitDefEqProofs only [BH,BQ,BZ,FZ,AL,AO,AJ,BA,AR,AC,AA,AY,AQ,BS,BI,BL,BG,BV,BR,AB,List.map_cons,List.map_nil,List.append_nil,↓reduceIte,Nat.reduceEqDiff,Nat.zero_add,Option.getD_some,Bool.not_false,enP,AAS,l3]
 refine (RB G _ _ _).use ?_
 simp -implicitDefEqProofs only [BJ,AZ,CK,AU,A9,AL,AO,AJ,BA,AR,AC,AA,AY,AQ,BI,A7,CF,DJ,↓reduceIte,Nat.reduceEqDiff,Option.getD_some,Bool.not_false,XT]
 exact ⟨by unfold E9; rw [h1,h2,h3,h4]; rfl,hx⟩
end Go.Proofs.YtocilianjfhifaaGreatDoor.Cov
/- Coverages that fit a model: the reference; no condition but the bounds on lengths. -/
set_option linter.unusedSimpArgs false
set_option maxRecDepth 8000
namespace Go.Proofs.YtocilianjfhifaaGreatDoor.Cov
open Go Go.Proofs Go.Proofs.YtocilianjfhifaaGreatDoor.Sm Go.Proofs.YtocilianjfhifaaGreatDoor.Bins Go.RowKit

/-- a model and a coverage in two blocks -/
structure TwoV (h H:Hp) (m:Mo) (v:Cvr) (vb:Nat):Prop where
 gm:H[h.length]? = some (.live 2 [DC m])
 gv:H[vb]? = some (.live 4 [D5 v])
 hx : ∃ x,H=h ++ x
theorem TwoV.mk' (h:Hp) (m:Mo) (v:Cvr):TwoV h (h ++ [.live 2 [DC m]] ++ [.live 4 [D5 v]]) m v (h ++ [ABlk.live 2 [DC m]]).length:=⟨C9 (CQ _ _),CQ _ _,⟨_,List.append_assoc _ _ _⟩⟩
section
variable {h H:Hp} {m:Mo} {v:Cvr} {vb:Nat} (t:TwoV h H m v vb)
include t
theorem TwoV.m0:D7 Tryz.prog H 22 (.ptr h.length 0 0)=some (.sl m.pm 6 (m.pts.map G9)):=by rw [DX TW t.gm (row:=DC m) rfl,O7]
theorem TwoV.m1:D7 Tryz.prog H 23 (.ptr h.length 0 1)=some (.sl m.cm 3 (m.crs.map GH)):=by rw [DX XA t.gm (row:=DC m) rfl,RO]
theorem TwoV.l0:D7 Tryz.prog H 26 (.ptr vb 0 0)=some (.sl v.pm 1 (v.pts.map GG)):=by rw [DX QR t.gv (row:=D5 v) rfl,AHG]
theorem TwoV.l1:D7 Tryz.prog H 26 (.ptr vb 0 1)=some (.sl v.cm 1 (v.crs.map GG)):=by rw [DX QR t.gv (row:=D5 v) rfl,AHF]
theorem TwoV.l2:D7 Tryz.prog H 3 (.ptr vb 0 2)=some (.int .i64 v.sam):=by rw [DX ag3 t.gv (row:=D5 v) rfl,AQH]
theorem TwoV.l3:D7 Tryz.prog H 3 (.ptr vb 0 3)=some (.int .i64 v.ill):=by rw [DX ag3 t.gv (row:=D5 v) rfl,AQG]
end
/-- as the reference asks -/
theorem AA2 (n:Int) (may:Bool):countB n may = !(!GR n || (decide (n > 0) && !may)):=by
 unfold countB
 cases hw:GR n
 ·rfl
 ·have h0:0≤n:=by
   unfold GR at hw; simp at hw; exact hw.1
  cases may
  ·have:(n == 0) = !decide (n > 0):=by rw [Bool.eq_iff_iff]; simp; omega
   rw [this]; cases decide (n > 0) <;> rfl
  ·cases decide (n > 0) <;> rfl
set_option maxHeartbeats 1000000 in
theorem SI (G:Nat→AV) (m:Mo) (v:Cvr) (hm:MoOk m) (hv:CvOk v) (h:Hp):PCall (En G) 39 [.agg (DC m),.agg (D5 v)] h (.bool (E9 m v)):=by
 refine ACalls.pure0 rfl ?_
 have hm1:=hm.np
 have hm2:=hm.nc
 refine BX (H:=Hint.none) (enM G) Tryz.func39 rfl (by kernel_rfl) (by kernel_rfl) (Nat.le_of_ble_eq_true (by kernel_rfl)) ?_
 show awp _ _ _ _ _ (EJ _ [.tmp 4] _)
 have t:=TwoV.mk' h m v
 simp -implicitDefEqProofs only [A8,AX,AZ,AU,A9,AL,AO,AJ,BA,AR,AC,AA,AY,AQ,BI,A7,EW,BL,BO,BC,BP,↓reduceIte,Nat.reduceEqDiff,Option.getD_some,Bool.not_false,enP,bxM,bxV]
 generalize h ++ [ABlk.live 2 [DC m]] ++ [ABlk.live 4 [D5 v]]=H at t ⊢
 generalize (h ++ [ABlk.live 2 [DC m]]).length=vb at t ⊢
 have hlp:m.pts.length≠v.pts.length→J2 okP m.pts v.pts=false:=fun hne=>by
  rw [← Bool.not_eq_true]; exact fun e=>hne (MO e)
 have hlc:m.crs.length≠v.crs.length→J2 (okC m) m.crs v.crs=false:=fun hne=>by
  rw [← Bool.not_eq_true]; exact fun e=>hne (MO e)
 simp -implicitDefEqProofs only [AU,AL,AO,AJ,BA,AR,AC,AA,AY,BS,BV,BR,AB,List.map_cons,List.map_nil,List.append_nil,↓reduceIte,Option.getD_some,Bool.not_false,ldM t.gm]
 refine (OI G m hm _).use ?_
 simp -implicitDefEqProofs only [AU,BH,BQ,BZ,AL,AO,AJ,BA,AR,AC,AA,AY,AQ,BD,BB,BN,AB,ED,↓reduceIte,Option.getD_some,Bool.not_false,enP,bne]
 cases h1:(FH m == 0)
 ·simp -implicitDefEqProofs only [A8,AX,BJ,BF,AZ,CJ,CK,DI,AU,A9,BH,BQ,BZ,FN,AL,AO,AJ,BA,AR,AC,AA,EM,AY,AQ,BI,BB,A7,CF,DJ,↓reduceIte,Nat.reduceEqDiff,Option.getD_some,Bool.not_false]
  exact ⟨by unfold E9; rw [h1]; rfl,t.hx⟩
 have hg:=JF (beq_iff_eq.1 h1)
 simp -implicitDefEqProofs only [AU,BH,BQ,BZ,EH,AL,AO,AJ,BA,AR,AC,AA,AY,AQ,BI,BB,CF,DK,BL,BN,BG,C8,AB,ED,↓reduceIte,Nat.reduceEqDiff,Nat.add_zero,Option.getD_some,Bool.not_true,Bool.not_false,enP,OZ,GZ,WM,NA,t.m0,t.l0,List.length_map,bne]
 cases h2:((v.pts.length:Int) == (m.pts.length:Int))
 ·simp -implicitDefEqProofs only [A8,AX,BJ,BF,AZ,CJ,CK,DI,AU,A9,BH,BQ,BZ,FN,AL,AO,AJ,BA,AR,AC,AA,EM,AY,AQ,BI,BB,A7,CF,DJ,↓reduceIte,Nat.reduceEqDiff,Option.getD_some,Bool.not_false]
  have:=hlp (by simp at h2; omega)
  exact ⟨by unfold E9; rw [this]; simp,t.hx⟩
 have h2':v.pts.length=m.pts.length:=by simp at h2; omega
 simp -implicitDefEqProofs only [AU,BH,BQ,BZ,EH,AL,AO,AJ,BA,AR,AC,AA,AY,AQ,BI,BB,CF,DK,BL,BN,BG,C8,AB,ED,↓reduceIte,Nat.reduceEqDiff,Nat.zero_add,Option.getD_some,Bool.not_true,Bool.not_false,enP,Q5,H7,WM,ME,t.m1,t.l1,List.length_map,bne]
 cases h3:((v.crs.length:Int) == (m.crs.length:Int))
 ·simp -implicitDefEqProofs only [A8,AX,BJ,BF,AZ,CJ,CK,DI,AU,A9,BH,BQ,BZ,FN,AL,AO,AJ,BA,AR,AC,AA,EM,AY,AQ,BI,BB,A7,CF,DJ,↓reduceIte,Nat.reduceEqDiff,Option.getD_some,Bool.not_false]
  have:=hlc (by simp at h3; omega)
  exact ⟨by unfold E9; rw [this]; simp,t.hx⟩
 have h3':v.crs.length=m.crs.length:=by simp at h3; omega
 simp -implicitDefEqProofs only [BH,BQ,BZ,EH,AL,AO,AJ,BA,AR,AC,AA,AY,BS,BL,BG,BV,BR,AB,List.map_cons,List.map_nil,List.append_nil,↓reduceIte,Nat.reduceEqDiff,Nat.zero_add,Option.getD_some,Bool.not_true,Bool.not_false,enP,WR,t.l2]
 refine (QX G _ _).use ?_
 simp -implicitDefEqProofs only [AU,BH,BQ,BZ,EH,AL,AO,AJ,BA,AR,AC,AA,AY,AQ,BI,BB,CF,DK,F9,AB,ER,↓reduceIte,Nat.reduceEqDiff,Option.getD_some,Bool.not_false]
 cases h4:GR v.sam
 ·simp -implicitDefEqProofs only [A8,AX,BJ,BF,AZ,CJ,CK,DI,AU,A9,BH,BQ,BZ,FN,AL,AO,AJ,BA,AR,AC,AA,EM,AY,AQ,BI,A7,CF,DJ,↓reduceIte,Nat.reduceEqDiff,Option.getD_some,Bool.not_false]
  exact ⟨by unfold E9; rw [h4]; simp,t.hx⟩
 simp -implicitDefEqProofs only [BH,BQ,BZ,EH,AL,AO,AJ,BA,AR,AC,AA,AY,BS,BL,BG,BV,BR,AB,List.map_cons,List.map_nil,List.append_nil,↓reduceIte,Nat.reduceEqDiff,Nat.zero_add,Option.getD_some,Bool.not_true,Bool.not_false,enP,AAS,t.l3]
 refine (QX G _ _).use ?_
 simp -implicitDefEqProofs only [BF,AZ,AU,A9,BH,BQ,BZ,EH,AL,AO,AJ,BA,AR,AC,AA,AY,AQ,BI,CF,DK,F9,AB,ER,↓reduceIte,Nat.reduceEqDiff,Option.getD_some,Bool.not_false]
 cases h5:GR v.ill
 ·simp -implicitDefEqProofs only [A8,AX,BJ,AZ,CJ,CK,DI,AU,A9,AL,AO,AJ,BA,AR,AC,AA,AQ,BI,A7,↓reduceIte,Option.getD_some,Bool.not_false]
  exact ⟨by unfold E9; rw [h5]; simp,t.hx⟩
 have hfb:E9 m v=(J2 okP m.pts v.pts && J2 (okC m) m.crs v.crs):=by unfold E9; rw [h1,h4,h5]; simp
 rw [hfb]
 simp -implicitDefEqProofs only [A8,BM,AX,BK,AZ,DL,AU,A9,AL,AO,AJ,BA,AR,AC,AQ,BD,A7,Option.getD_some,Bool.not_true,Bool.not_false]
 refine FO 0 (fun F H'=>F 2 = .ptr h.length 0 0∧F 3 = .ptr vb 0 0∧H'=H∧J2 okP m.pts v.pts=true) (fun F H'=>F 4 = .bool false∧H'=H∧J2 okP m.pts v.pts=false) ?_ ?_ ?_
 ·refine CS (fun n F H' => ∃ i,n+i=m.pts.length∧F 2 = .ptr h.length 0 0∧F 3 = .ptr vb 0 0∧F 5 = .int .i64 (i:Nat)∧H'=H∧J2 okP m.pts v.pts=J2 okP (m.pts.drop i) (v.pts.drop i)) m.pts.length ⟨0,by simp,by simp -implicitDefEqProofs only [AA,↓reduceIte,Nat.reduceEqDiff],by simp -implicitDefEqProofs only [AA,↓reduceIte,Nat.reduceEqDiff],by simp -implicitDefEqProofs only [AA,↓reduceIte]; rfl,rfl,rfl⟩ ?_
  rintro n F H' ⟨i,hi,f2,f3,f5,rfl,hf⟩
  simp -implicitDefEqProofs only [A8,AX,BF,AZ,AU,A9,AL,AO,AJ,BA,AR,AC,AA,AY,BB,BL,BN,BG,C8,AB,CO,↓reduceIte,Nat.reduceEqDiff,Nat.add_zero,Option.getD_some,Bool.not_false,enP,OZ,GZ,f2,f5,t.m0,List.length_map]
  refine CG (fun hc => ?_) (fun hc => ?_)
  ·have hi':i < m.pts.length:=by simpa using hc
   have hil:i < v.pts.length:=by omega
   rw [TQ okP m.pts v.pts i hi' hil] at hf
   have hxl:=hv.eachP _ (List.getElem_mem hil)
   simp -implicitDefEqProofs only [A8,BM,BK,AZ]
   refine EG (by kernel_rfl) ?_
   simp -implicitDefEqProofs only [FJ,DT,CZ,EO,DV,ET,EN,GK,DW,DN,FX,BF,AZ,AL,AA,AY,BL,BN,BG,BU,C8,AB,ED,↓reduceIte,Nat.reduceEqDiff,Nat.reduceAdd,Nat.add_zero,Nat.zero_add,Option.getD_some,enP,MV,GZ,PK,NA,PI,HZ,GV,f2,f3,f5,t.m0,t.l0,CW hil,CW hi',CP KA hil,LH,CP NW hi',K3,List.length_map]
   refine CG (fun h6 => ?_) (fun h6 => ?_)
   ·simp -implicitDefEqProofs only [A8,AX,BJ,AZ,CJ,D6,KC,EZ,AU,A9,AL,AO,AJ,BA,AR,AC,AA,AQ,BI,A7,↓reduceIte,Option.getD_some,Bool.not_false]
    have:okP m.pts[i] v.pts[i]=false:=by
     have:(v.pts[i].l.length == m.pts[i].bins.length)=false:=by
      rw [beq_eq_false_iff_ne]; intro e; simp [e] at h6
     unfold okP; rw [this]; rfl
    exact ⟨trivial,trivial,by rw [hf,this]; rfl⟩
   have hbl:v.pts[i].l.length=m.pts[i].bins.length:=by simp at h6; omega
   have hok:okP m.pts[i] v.pts[i]=NM (fun k=>kindOf m.pts[i] k == 0) 0 v.pts[i].l:=by
    unfold okP; rw [beq_iff_eq.2 hbl]; rfl
   simp -implicitDefEqProofs only [A8,BM,AX,BK,AZ,AU,A9,AL,AO,AJ,BA,AR,AC,AQ,BD,A7,Option.getD_some,Bool.not_false]
   refine FO 2 (fun F' H=>F' 2 = .ptr h.length 0 0∧F' 3 = .ptr vb 0 0∧F' 5 = .int .i64 (i:Nat)∧H=H'∧okP m.pts[i] v.pts[i]=true) (fun F' H=>F' 4 = .bool false∧H=H'∧okP m.pts[i] v.pts[i]=false) ?_ ?_ ?_
   ·refine CS (fun n F' H => ∃ k,n+k=v.pts[i].l.length∧F' 2 = .ptr h.length 0 0∧F' 3 = .ptr vb 0 0∧F' 5 = .int .i64 (i:Nat)∧F' 6 = .int .i64 (k:Nat)∧H=H'∧okP m.pts[i] v.pts[i]=NM (fun k=>kindOf m.pts[i] k == 0) k (v.pts[i].l.drop k)) v.pts[i].l.length ⟨0,by simp,by simp -implicitDefEqProofs only [AA,↓reduceIte,Nat.reduceEqDiff,f2],by simp -implicitDefEqProofs only [AA,↓reduceIte,Nat.reduceEqDiff,f3],by simp -implicitDefEqProofs only [AA,↓reduceIte,Nat.reduceEqDiff,f5],by simp -implicitDefEqProofs only [AA,↓reduceIte]; rfl,rfl,hok⟩ ?_
    clear f2 f3 f5
    rintro n' F H' ⟨k,hk,f2,f3,f5,f6,rfl,hr⟩
    simp -implicitDefEqProofs only [A8,AX,BF,AZ,AU,A9,AL,AO,AJ,BA,AR,AC,AA,AY,BB,BL,BN,BG,BU,C8,AB,CO,↓reduceIte,Nat.reduceEqDiff,Nat.add_zero,Option.getD_some,Bool.not_false,enP,PK,NA,GV,f3,f5,f6,t.l0,CW hil,CP KA hil,LH,List.length_map]
    refine CG (fun hc => ?_) (fun hc => ?_)
    ·have hk':k < v.pts[i].l.length:=by simpa using hc
     have hkb:k < m.pts[i].bins.length:=by omega
     have hkd:kindOf m.pts[i] k=(m.pts[i].bins[k]).kind:=by unfold kindOf; rw [List.getElem?_eq_getElem hkb]
     rw [TJ _ _ _ hk',hkd,AA2] at hr
     simp -implicitDefEqProofs only [A8,BM,AX,BK,AZ,AU,A9,AL,AO,AJ,BA,AR,AC,AA,AY,BS,BB,A7,BL,BG,BU,BV,BR,AB,List.map_cons,List.map_nil,List.append_nil,↓reduceIte,Nat.reduceEqDiff,Nat.add_zero,Option.getD_some,Bool.not_false,enP,PK,NA,IL,f3,f5,f6,t.l0,CW hil,CP KA hil,LH,CW hk',CP ag3 hk',encI0]
     refine (QX G _ _).use ?_
     simp -implicitDefEqProofs only [AU,BH,BQ,BZ,AL,AO,AJ,BA,AR,AC,AA,AY,BB,F9,AB,ER,↓reduceIte,Option.getD_some,Bool.not_false]
     cases hw:GR v.pts[i].l[k]
     ·simp -implicitDefEqProofs only [A8,AX,BJ,BF,AZ,CJ,D6,KC,EZ,DI,AU,A9,BH,BQ,BZ,FN,PE,AL,AO,AJ,BA,AR,AC,AA,EM,AY,AQ,BI,A7,CF,DJ,↓reduceIte,Nat.reduceEqDiff,Option.getD_some,Bool.not_false]
      exact ⟨trivial,trivial,by rw [hr,hw]; rfl⟩
     rw [hw] at hr
     simp -implicitDefEqProofs only [BH,BQ,BZ,EH,AL,AO,AJ,BA,AR,AC,AA,AY,AQ,BD,BB,BN,AB,EK,↓reduceIte,Nat.reduceEqDiff,Option.getD_some,Bool.not_true,Bool.not_false,enP]
     cases hp:decide (v.pts[i].l[k] > 0)
     ·simp -implicitDefEqProofs only [AX,BK,BF,AZ,DU,DZ,DL,AU,A9,BH,BQ,BZ,EH,IQ,AL,AO,AJ,BA,AR,AC,AA,EM,AY,AQ,BD,BI,BB,A7,CF,DK,BN,AB,CR,↓reduceIte,Nat.reduceEqDiff,Option.getD_some,Bool.not_false,enP,f6,CB (show k < 9223372036854775807 by omega)]
      exact ⟨n' - 1,by omega,k+1,by omega,f2,f3,f5,rfl,trivial,by rw [hr,hp]; rfl⟩
     rw [hp] at hr
     simp -implicitDefEqProofs only [BF,AZ,AU,A9,BH,BQ,BZ,FZ,EH,AL,AO,AJ,BA,AR,AC,AA,AY,AQ,BD,BI,BB,CF,DJ,DK,BL,BN,BG,BU,AB,ED,↓reduceIte,Nat.reduceEqDiff,Nat.add_zero,Nat.zero_add,Option.getD_some,Bool.not_false,enP,MV,GZ,VH,HZ,KZ,f2,f5,f6,t.m0,CW hi',CP NW hi',K3,CW hkb,CP ag3 hkb,PT,bne]
     cases hz:(m.pts[i].bins[k].kind == 0)
     ·simp -implicitDefEqProofs only [A8,AX,BJ,AZ,CJ,D6,KC,EZ,DI,AU,A9,AL,AO,AJ,BA,AR,AC,AA,AQ,BI,A7,↓reduceIte,Option.getD_some,Bool.not_false]
      exact ⟨trivial,trivial,by rw [hr,hz]; rfl⟩
     ·simp -implicitDefEqProofs only [AX,BK,AZ,DU,DZ,DL,AU,A9,AL,AO,AJ,BA,AR,AC,AA,AY,AQ,BD,BB,A7,BN,AB,CR,↓reduceIte,Nat.reduceEqDiff,Option.getD_some,Bool.not_true,Bool.not_false,enP,f6,CB (show k < 9223372036854775807 by omega)]
      exact ⟨n' - 1,by omega,k+1,by omega,f2,f3,f5,rfl,trivial,by rw [hr,hz]; rfl⟩
    ·have hk' : ¬ k < v.pts[i].l.length:=by simpa using hc
     simp -implicitDefEqProofs only [CU,DR,II,EF,AA,↓reduceIte,Nat.reduceEqDiff]
     exact ⟨f2,f3,f5,trivial,by rw [hr,List.drop_eq_nil_of_le (by omega)]; rfl⟩
   ·rintro F' H' ⟨g2,g3,g5,rfl,hr⟩
    simp -implicitDefEqProofs only [AX,AZ,DU,EB,DZ,AU,A9,AL,AO,AJ,BA,AR,AC,AA,AY,AQ,BD,BB,A7,BN,AB,CR,↓reduceIte,Nat.reduceEqDiff,Option.getD_some,Bool.not_false,enP,g5,CB (show i < 9223372036854775807 by omega)]
    exact ⟨n - 1,by omega,i+1,by omega,g2,g3,rfl,trivial,by rw [hf,hr]; rfl⟩
   ·rintro F' H' ⟨g4,rfl,hr⟩
    simp -implicitDefEqProofs only [CJ,D6,KC,EZ,g4]
    exact ⟨trivial,trivial,by rw [hf,hr]; rfl⟩
  ·have hi' : ¬ i < m.pts.length:=by simpa using hc
   simp -implicitDefEqProofs only [CU,DR,II,EF,AA,↓reduceIte,Nat.reduceEqDiff]
   exact ⟨f2,f3,trivial,by rw [hf,VO okP _ _ i (by omega) (by omega)]⟩
 ·rintro F H' ⟨f2,f3,rfl,hfp⟩
  rw [hfp,Bool.true_and]
  simp -implicitDefEqProofs only [A8,BM,AX,AZ,EB,AU,A9,AL,AO,AJ,BA,AR,AC,AQ,BD,A7,↓reduceIte,Option.getD_some,Bool.not_false]
  refine CS (fun n F H => ∃ i,n+i=m.crs.length∧F 2 = .ptr h.length 0 0∧F 3 = .ptr vb 0 0∧F 8 = .int .i64 (i:Nat)∧H=H'∧J2 (okC m) m.crs v.crs=J2 (okC m) (m.crs.drop i) (v.crs.drop i)) m.crs.length ⟨0,by simp,by simp -implicitDefEqProofs only [AA,↓reduceIte,Nat.reduceEqDiff,f2],by simp -implicitDefEqProofs only [AA,↓reduceIte,Nat.reduceEqDiff,f3],by simp -implicitDefEqProofs only [AA,↓reduceIte]; rfl,rfl,rfl⟩ ?_
  clear f2 f3
  rintro n F H' ⟨i,hi,f2,f3,f8,rfl,hf⟩
  simp -implicitDefEqProofs only [A8,AX,BF,AZ,AU,A9,AL,AO,AJ,BA,AR,AC,AA,AY,BB,BL,BN,BG,C8,AB,CO,↓reduceIte,Nat.reduceEqDiff,Nat.zero_add,Option.getD_some,Bool.not_false,enP,Q5,H7,f2,f8,t.m1,List.length_map]
  refine CG (fun hc => ?_) (fun hc => ?_)
  ·have hi':i < m.crs.length:=by simpa using hc
   have hil:i < v.crs.length:=by omega
   rw [TQ (okC m) m.crs v.crs i hi' hil] at hf
   have hxl:=hv.eachC _ (List.getElem_mem hil)
   have hcg:=hg.crs _ (List.getElem_mem hi')
   have hfs:=hg.full.szs hcg.here
   have htwo:=hcg.two
   have hfour:=hcg.four
   have hpr:=hcg.prod
   have hnum:=hcg.num
   have hmin:min (FM (szs m m.crs[i].pts):Int) 1000=(FM (szs m m.crs[i].pts):Int):=by omega
   simp -implicitDefEqProofs only [A8,BM,BK,AZ]
   refine EG (by kernel_rfl) ?_
   simp -implicitDefEqProofs only [FJ,DT,CZ,DV,ET,EN,GK,DW,DN,FX,FP,FD,AL,AA,AY,BS,BL,BN,BG,BU,C8,AB,List.map_cons,List.map_nil,List.append_nil,↓reduceIte,Nat.reduceEqDiff,Nat.reduceAdd,Nat.zero_add,Option.getD_some,enP,P7,H7,PK,ME,GV,f2,f3,f8,t.m1,t.l1,ldM t.gm,CW hil,CW hi',CP KA hil,LH,ES ABC WE JR hi',List.length_map]
   refine ⟨_,WU G m m.crs[i] _ hcg.here hg.full (by omega),?_⟩
   rw [hmin]
   try simp -implicitDefEqProofs only [CZ,EO,BF,AZ,AA,AY,AB,ED,↓reduceIte]
   refine CG (fun h6 => ?_) (fun h6 => ?_)
   ·simp -implicitDefEqProofs only [A8,AX,BJ,AZ,CJ,D6,EZ,CK,AU,A9,AL,AO,AJ,BA,AR,AC,AA,AQ,BI,A7,↓reduceIte,Option.getD_some,Bool.not_false]
    have:okC m m.crs[i] v.crs[i]=false:=by
     have:(v.crs[i].l.length == FM (szs m m.crs[i].pts))=false:=by
      rw [beq_eq_false_iff_ne]; intro e; simp [e] at h6
     unfold okC; rw [this]; rfl
    exact ⟨by rw [hf,this]; rfl,t.hx⟩
   have hbl:v.crs[i].l.length=FM (szs m m.crs[i].pts):=by simp at h6; omega
   have hok:okC m m.crs[i] v.crs[i]=NM (fun k=>OE m m.crs[i] (L9 (szs m m.crs[i].pts) k)) 0 v.crs[i].l:=by
    unfold okC; rw [beq_iff_eq.2 hbl]; rfl
   simp -implicitDefEqProofs only [A8,BM,AX,BK,AZ,AU,A9,AL,AO,AJ,BA,AR,AC,AQ,BD,A7,Option.getD_some,Bool.not_false]
   refine FO 6 (fun F' H=>F' 2 = .ptr h.length 0 0∧F' 3 = .ptr vb 0 0∧F' 8 = .int .i64 (i:Nat)∧H=H'∧okC m m.crs[i] v.crs[i]=true) (fun F' H=>F' 4 = .bool false∧H=H'∧okC m m.crs[i] v.crs[i]=false) ?_ ?_ ?_
   ·refine CS (fun n F' H => ∃ k,n+k=v.crs[i].l.length∧F' 2 = .ptr h.length 0 0∧F' 3 = .ptr vb 0 0∧F' 8 = .int .i64 (i:Nat)∧F' 9 = .int .i64 (k:Nat)∧H=H'∧okC m m.crs[i] v.crs[i]=NM (fun k=>OE m m.crs[i] (L9 (szs m m.crs[i].pts) k)) k (v.crs[i].l.drop k)) v.crs[i].l.length ⟨0,by simp,by simp -implicitDefEqProofs only [AA,↓reduceIte,Nat.reduceEqDiff,f2],by simp -implicitDefEqProofs only [AA,↓reduceIte,Nat.reduceEqDiff,f3],by simp -implicitDefEqProofs only [AA,↓reduceIte,Nat.reduceEqDiff,f8],by simp -implicitDefEqProofs only [AA,↓reduceIte]; rfl,rfl,hok⟩ ?_
    clear f2 f3 f8
    rintro n' F H' ⟨k,hk,f2,f3,f8,f9,rfl,hr⟩
    simp -implicitDefEqProofs only [A8,AX,BF,AZ,AU,A9,AL,AO,AJ,BA,AR,AC,AA,AY,BB,BL,BN,BG,BU,C8,AB,CO,↓reduceIte,Nat.reduceEqDiff,Nat.zero_add,Option.getD_some,Bool.not_false,enP,PK,ME,GV,f3,f8,f9,t.l1,CW hil,CP KA hil,LH,List.length_map]
    refine CG (fun hc => ?_) (fun hc => ?_)
    ·have hk':k < v.crs[i].l.length:=by simpa using hc
     rw [TJ _ _ _ hk',AA2] at hr
     simp -implicitDefEqProofs only [A8,BM,AX,BK,AZ,AU,A9,AL,AO,AJ,BA,AR,AC,AA,AY,BB,A7,BL,BG,BU,AB,↓reduceIte,Nat.reduceEqDiff,Nat.zero_add,Option.getD_some,Bool.not_false,enP,PK,ME,IL,f3,f8,f9,t.l1,CW hil,CP KA hil,LH,CW hk',CP ag3 hk',encI0]
     refine EG (by kernel_rfl) ?_
     simp -implicitDefEqProofs only [FJ,DT,CZ,DV,ET,ADV,FP,FD,AL,AA,AY,BS,F9,List.map_cons,List.map_nil,List.append_nil,↓reduceIte,Nat.reduceAdd,Option.getD_some]
     refine ⟨_,QX G _ _,?_⟩
     try simp -implicitDefEqProofs only [FJ,DT,CZ,DV,EY,FR,ET,BZ,AL,AA,AY,AB,ER,↓reduceIte,Nat.reduceAdd,Option.getD_some]
     cases hw:GR v.crs[i].l[k]
     ·simp -implicitDefEqProofs only [FJ,DT,CZ,EO,DV,EY,FR,WB,AWW,G6,A8,AX,BJ,BF,AZ,CJ,D6,KC,EZ,DI,AU,A9,BZ,AL,AO,AJ,BA,AR,AC,AA,EM,AY,AQ,BI,A7,CF,DJ,↓reduceIte,Nat.reduceEqDiff,Nat.reduceAdd,Option.getD_some,Bool.not_false]
      exact ⟨trivial,trivial,by rw [hr,hw]; rfl⟩
     rw [hw] at hr
     simp -implicitDefEqProofs only [FJ,DT,CZ,EY,FR,NT,ET,GK,BZ,AL,AA,AY,AQ,BD,BN,AB,EK,↓reduceIte,Nat.reduceEqDiff,Nat.reduceAdd,Option.getD_some,Bool.not_true,enP]
     cases hp:decide (v.crs[i].l[k] > 0)
     ·simp -implicitDefEqProofs only [FJ,DT,CZ,EO,DV,EY,FR,NT,ABL,G6,AX,BK,BF,AZ,DU,DZ,DL,AU,A9,BZ,AL,AO,AJ,BA,AR,AC,AA,EM,AY,AQ,BD,BI,BB,A7,CF,DK,BN,AB,CR,↓reduceIte,Nat.reduceEqDiff,Nat.reduceAdd,Option.getD_some,Bool.not_false,enP,f9,CB (show k < 9223372036854775807 by omega)]
      exact ⟨n' - 1,by omega,k+1,by omega,f2,f3,f8,rfl,trivial,by rw [hr,hp]; rfl⟩
     rw [hp] at hr
     simp -implicitDefEqProofs only [FJ,DT,CZ,EY,FR,QU,ET,EN,ADV,DW,DN,FP,FD,BZ,AL,AA,AY,BS,BL,F9,BG,BU,AB,List.map_cons,List.map_nil,List.append_nil,↓reduceIte,Nat.reduceEqDiff,Nat.reduceAdd,Nat.zero_add,Option.getD_some,enP,P7,H7,f2,f8,f9,t.m1,ldM t.gm,CW hi',ES ABC WE JR hi']
     refine ⟨_,AML G m m.crs[i] k _ hcg.here hg.full (by omega) (by omega) (by omega),?_⟩
     try simp -implicitDefEqProofs only []
     refine ⟨_,AJT G m m.crs[i] _ _ _ hcg.here (R3 _ _ fun n hn=>(hfs n hn).1) (by omega) (by omega),?_⟩
     try simp -implicitDefEqProofs only [FJ,DT,CZ,EO,DV,EY,FR,NT,G6,BF,AZ,BZ,AL,AA,AY,AQ,BI,CF,DJ,DK,AB,ER,↓reduceIte,Nat.reduceEqDiff,Nat.reduceAdd,Option.getD_some]
     cases hz:OE m m.crs[i] (L9 (szs m m.crs[i].pts) k)
     ·simp -implicitDefEqProofs only [A8,AX,BJ,AZ,CJ,D6,KC,EZ,DI,AU,A9,AL,AO,AJ,BA,AR,AC,AA,AQ,BI,A7,↓reduceIte,Option.getD_some,Bool.not_false]
      exact ⟨trivial,trivial,by rw [hr,hz]; rfl⟩
     ·simp -implicitDefEqProofs only [AX,BK,AZ,DU,DZ,DL,AU,A9,AL,AO,AJ,BA,AR,AC,AA,AY,AQ,BD,BB,A7,BN,AB,CR,↓reduceIte,Nat.reduceEqDiff,Option.getD_some,Bool.not_true,Bool.not_false,enP,f9,CB (show k < 9223372036854775807 by omega)]
      exact ⟨n' - 1,by omega,k+1,by omega,f2,f3,f8,rfl,trivial,by rw [hr,hz]; rfl⟩
    ·have hk' : ¬ k < v.crs[i].l.length:=by simpa using hc
     simp -implicitDefEqProofs only [CU,DR,II,EF,AA,↓reduceIte,Nat.reduceEqDiff]
     exact ⟨f2,f3,f8,trivial,by rw [hr,List.drop_eq_nil_of_le (by omega)]; rfl⟩
   ·rintro F' H' ⟨g2,g3,g8,rfl,hr⟩
    simp -implicitDefEqProofs only [AX,AZ,DU,EB,DZ,AU,A9,AL,AO,AJ,BA,AR,AC,AA,AY,AQ,BD,BB,A7,BN,AB,CR,↓reduceIte,Nat.reduceEqDiff,Option.getD_some,Bool.not_false,enP,g8,CB (show i < 9223372036854775807 by omega)]
    exact ⟨n - 1,by omega,i+1,by omega,g2,g3,rfl,trivial,by rw [hf,hr]; rfl⟩
   ·rintro F' H' ⟨g4,rfl,hr⟩
    simp -implicitDefEqProofs only [CJ,D6,EZ,CK,g4]
    exact ⟨by rw [hf,hr]; rfl,t.hx⟩
  ·have hi' : ¬ i < m.crs.length:=by simpa using hc
   simp -implicitDefEqProofs only [A8,AX,BJ,CU,AZ,DR,EB,EF,CK,AU,A9,AL,AO,AJ,BA,AR,AC,AA,AQ,BI,A7,↓reduceIte,Option.getD_some,Bool.not_false]
   exact ⟨by rw [hf,VO (okC m) _ _ i (by omega) (by omega)],t.hx⟩
 ·rintro F H' ⟨f4,rfl,hfp⟩
  simp -implicitDefEqProofs only [CJ,D6,CK,f4]
  exact ⟨by rw [hfp]; rfl,t.hx⟩
end Go.Proofs.YtocilianjfhifaaGreatDoor.Cov
/- Combinations of layer 47: the program; no condition but the bounds on lengths. -/
set_option linter.unusedSimpArgs false
set_option maxRecDepth 8000
namespace Go.Proofs.YtocilianjfhifaaGreatDoor.Cov
open Go Go.Proofs Go.Proofs.YtocilianjfhifaaGreatDoor.Sm Go.Proofs.YtocilianjfhifaaGreatDoor.Bins Go.RowKit

theorem AJJ (G:Nat→AV) (xs:List Int) (m:SM) (fid:FuncId) (caps:List AV) (p:Int→Bool) (h:Hp) (hl:xs.length≤1099511627776)
  (hf : ∀ r,PCall (En G) fid (.int .i64 r :: caps) h (.bool (p r))) :
  PCall (En G) 204 [.sl m 1 (xs.map encI),.fn (.func fid) [] caps] h (.int .i64 (match xs.findIdx? p with | some i=>(i:Int) | none => -1)):=by
 refine BX (H:=Hint.none) (enM G) Tryz.func204 rfl (by kernel_rfl) (by kernel_rfl) (Nat.le_of_ble_eq_true (by kernel_rfl)) ?_
 show awp _ _ _ _ _ (EJ _ [.tmp 4] _)
 simp -implicitDefEqProofs only [A8,BM,AX,AZ,AU,A9,AL,AO,AJ,BA,AR,AC,AA,AY,AQ,BD,BB,A7,C8,AB,BC,↓reduceIte,Nat.reduceEqDiff,Option.getD_some,Bool.not_false,enP,GV,List.length_map]
 refine CS (fun n F H => ∃ k,n+k=xs.length∧F 0 = .sl m 1 (xs.map encI)∧F 1 = .fn (.func fid) [] caps∧F 7 = .int .i64 xs.length∧F 8 = .int .i64 (k:Nat)∧H=h∧(xs.take k).all (fun r => !p r)=true) xs.length ⟨0,by simp,rfl,rfl,rfl,rfl,rfl,rfl⟩ ?_
 rintro n F H ⟨k,hk,f0,f1,f7,f8,rfl,hin⟩
 simp -implicitDefEqProofs only [A8,AX,BF,AZ,AU,A9,AL,AO,AJ,BA,AR,AC,AA,AY,BN,AB,CO,↓reduceIte,Option.getD_some,Bool.not_false,enP,f0,f1,f7,f8,List.length_map]
 refine CG (fun hc => ?_) (fun hc => ?_)
 ·have hc':k < xs.length:=by simpa using hc
  simp -implicitDefEqProofs only [A8,BM,AX,BK,AZ,AU,A9,AL,AO,AJ,BA,AR,AC,AA,AY,BB,A7,BL,BU,BV,BR,AB,List.map_cons,List.map_nil,List.nil_append,List.cons_append,↓reduceIte,Nat.reduceEqDiff,Option.getD_some,Bool.not_false,enP,IL,f0,f1,f7,f8,CW hc',CP ag3 hc',encI0]
  refine (hf _).use ?_
  simp -implicitDefEqProofs only [BF,AZ,A9,AC,AA,AY,↓reduceIte]
  refine CG (fun hb => ?_) (fun hb => ?_)
  ·simp -implicitDefEqProofs only [A8,AX,BJ,AZ,CJ,D6,EZ,CK,AU,A9,AL,AO,AJ,BA,AR,AC,AA,AY,BB,A7,↓reduceIte,Nat.reduceEqDiff,Option.getD_some,Bool.not_false]
   refine ⟨?_,trivial⟩
   rw [List.findIdx?_eq_some_iff_getElem.2 ⟨hc',hb,fun j hj=>by
    rw [List.all_eq_true] at hin
    have:=hin xs[j] (by rw [List.mem_take_iff_getElem]; exact ⟨j,by omega,rfl⟩)
    simpa using this⟩]
  ·simp -implicitDefEqProofs only [AX,BK,AZ,DU,DZ,AU,A9,AL,AO,AJ,BA,AR,AC,AA,AY,AQ,BD,BB,BN,AB,CR,↓reduceIte,Nat.reduceEqDiff,Option.getD_some,Bool.not_false,enP,f8,CB (show k < 9223372036854775807 by omega)]
   refine ⟨n - 1,by omega,k+1,by omega,f0,f1,f7,rfl,trivial,?_⟩
   rw [List.take_succ_eq_append_getElem hc',List.all_append,hin]
   simp only [List.all_cons,List.all_nil,hb]; rfl
 ·have hc' : ¬ k < xs.length:=by simpa using hc
  simp -implicitDefEqProofs only [A8,AX,BJ,CU,AZ,DR,EB,EF,CK,AU,A9,AL,AO,AJ,BA,AR,AC,AA,AQ,BD,A7,↓reduceIte,Option.getD_some,Bool.not_false]
  refine ⟨?_,trivial⟩
  rw [List.take_of_length_le (by omega)] at hin
  rw [List.findIdx?_eq_none_iff.2 (by simpa using hin)]

theorem AB6 (G:Nat→AV) (xs:List Int) (m:SM) (fid:FuncId) (caps:List AV) (p:Int→Bool) (h:Hp) (hl:xs.length≤1099511627776)
  (hf : ∀ r,PCall (En G) fid (.int .i64 r :: caps) h (.bool (p r))) :
  PCall (En G) 155 [.sl m 1 (xs.map encI),.fn (.func fid) [] caps] h (.bool (xs.any p)):=by
 refine BX (H:=Hint.none) (enM G) Tryz.func155 rfl (by kernel_rfl) (by kernel_rfl) (Nat.le_of_ble_eq_true (by kernel_rfl)) ?_
 show awp _ _ _ _ _ (EJ _ [.tmp 4] _)
 simp -implicitDefEqProofs only [A8,AX,AZ,AU,A9,AL,AO,AJ,BA,AR,AC,AA,AY,AQ,BS,BI,BB,A7,BV,BR,BC,BP,List.map_cons,List.map_nil,List.append_nil,↓reduceIte,Nat.reduceEqDiff,Option.getD_some,Bool.not_false,enP]
 refine (AJJ G xs m fid caps p h hl hf).use ?_
 simp -implicitDefEqProofs only [BJ,AZ,CK,AU,A9,AL,AO,AJ,BA,AR,AC,AA,AY,AQ,BD,A7,BN,AB,F3,↓reduceIte,Option.getD_some,Bool.not_false,enP]
 refine ⟨?_,trivial⟩
 cases hx:xs.findIdx? p with
 | some i =>
   obtain ⟨h1,h2,_⟩:=List.findIdx?_eq_some_iff_getElem.1 hx
   have:xs.any p=true:=List.any_eq_true.2 ⟨xs[i],by simp,h2⟩
   simp [this]
 | none =>
   have:xs.any p=false:=by
    rw [List.findIdx?_eq_none_iff] at hx
    rw [List.any_eq_false]; intro x hx2; simp [hx x hx2]
   simp [this]
theorem AEB {h:Hp} {b:Nat} {m:Mo} (hb:h[b]? = some (.live 2 [DC m])):D7 Tryz.prog h 22 (.ptr b 0 0)=some (.sl m.pm 6 (m.pts.map G9)):=by rw [DX TW hb (row:=DC m) rfl,O7]
theorem ABT {h:Hp} {b:Nat} {m:Mo} (hb:h[b]? = some (.live 2 [DC m])):D7 Tryz.prog h 23 (.ptr b 0 1)=some (.sl m.cm 3 (m.crs.map GH)):=by rw [DX XA hb (row:=DC m) rfl,RO]
theorem AI7 (G:Nat→AV) (m:Mo) (b:Nat) (p:Int) (h:Hp) (hb:h[b]? = some (.live 2 [DC m])):PCall (En G) 224 [.int .i64 p,.ptr b 0 0] h (.bool (decide (p < 0) || decide (p≥(m.pts.length:Int)))):=by
 refine BX (H:=Hint.none) (enM G) Tryz.func224 rfl (by kernel_rfl) (by kernel_rfl) (Nat.le_of_ble_eq_true (by kernel_rfl)) ?_
 show awp _ _ _ _ _ (EJ _ [.tmp 3] _)
 simp -implicitDefEqProofs only [A8,AX,AZ,AU,A9,BH,BQ,BZ,AL,AO,AJ,BA,AR,AC,AA,AY,AQ,BD,BI,BB,A7,BN,AB,CO,BC,↓reduceIte,Nat.reduceEqDiff,Option.getD_some,Bool.not_false,enP]
 cases ha:decide (p < 0)
 ·simp -implicitDefEqProofs only [Bool.false_or,BJ,AZ,CK,AU,A9,BH,BQ,BZ,EH,AL,AO,AJ,BA,AR,AC,AA,AY,AQ,BI,BB,A7,CF,DK,BL,BN,BG,C8,AB,F3,BC,BP,↓reduceIte,Nat.reduceEqDiff,Nat.add_zero,Option.getD_some,Bool.not_false,enP,OZ,GZ,AEB hb,List.length_map]
  exact ⟨by simp,trivial⟩
 ·simp -implicitDefEqProofs only [Bool.true_or,BJ,AZ,CK,AU,A9,BH,BQ,BZ,FN,AL,AO,AJ,BA,AR,AC,AA,EM,AY,AQ,BI,A7,CF,DJ,↓reduceIte,Nat.reduceEqDiff,Option.getD_some,Bool.not_false]
  exact ⟨by simp,trivial⟩
theorem APU {m:Mo} {l:List Int} (hh:Here m l):(l.any fun p=>decide (p < 0) || decide (p≥(m.pts.length:Int)))=false:=by
 rw [List.any_eq_false]
 intro p hp
 have:=hh p hp
 simp; omega
theorem XI (G:Nat→AV) (m:Mo) (i:Nat) (hi:i < m.crs.length) (hg:CrGood m m.crs[i]) (h:Hp):PCall (En G) 184 [.agg (DC m),.int .i64 (i:Int)] h (.bool true):=by
 refine ACalls.pure0 rfl ?_
 have hfour:=hg.four
 refine BX (H:=Hint.none) (enM G) Tryz.func184 rfl (by kernel_rfl) (by kernel_rfl) (Nat.le_of_ble_eq_true (by kernel_rfl)) ?_
 show awp _ _ _ _ _ (EJ _ [.tmp 4] _)
 have d0:decide ((i:Int) < 0)=false:=by simp
 have d1:decide ((i:Int)≥(m.crs.length:Int))=false:=by simp; omega
 simp -implicitDefEqProofs only [A8,AX,BK,BF,AZ,DL,AU,A9,BH,BQ,BZ,EH,AL,AO,AJ,BA,AR,AC,AA,AY,AQ,BS,BD,BI,BB,A7,CF,DK,EW,BL,BN,KO,BG,BU,C8,BV,BR,BO,AB,CO,F3,BC,BP,List.map_cons,List.map_nil,List.append_nil,↓reduceIte,Nat.reduceEqDiff,Nat.zero_add,Option.getD_some,Bool.not_false,enP,P7,Q5,H7,IU,bxM,d0,CX XA,RO,List.length_map,d1,CW hi,CP KA hi,RP]
 refine (AB6 G m.crs[i].pts m.crs[i].pm 224 _ _ _ (by omega) fun r=>AI7 G m _ r _ (CQ _ _)).use ?_
 simp -implicitDefEqProofs only [BJ,AZ,CK,AU,A9,AL,AO,AJ,BA,AR,AC,AA,AY,A7,F9,AB,ER,↓reduceIte,Option.getD_some,Bool.not_false,APU hg.here]
 exact ⟨trivial,_,rfl⟩
theorem RD (G:Nat→AV) (m:Mo) (i:Nat) (hi:i < m.crs.length) (hg:CrGood m m.crs[i]) (h:Hp):PCall (En G) 185 [.agg (DC m),.int .i64 (i:Int)] h (.sl .any 1 ((szs m m.crs[i].pts).map EU)):=by
 have hfour:=hg.four
 have htwo:=hg.two
 have hh:=hg.here
 have hp:PCall (En G) 185 [.agg (DC m),.int .i64 (i:Int)] h (.sl (nm (szs m m.crs[i].pts)) 1 ((szs m m.crs[i].pts).map EU)):=by
  refine LA ANG ?_
  refine BX (H:=Hint.none) (enM G) Tryz.func185 rfl (by kernel_rfl) (by kernel_rfl) (Nat.le_of_ble_eq_true (by kernel_rfl)) ?_
  show awp _ _ _ _ _ (EJ _ [.tmp 4] _)
  simp -implicitDefEqProofs only [A8,BM,AX,AZ,AU,A9,AL,AO,AJ,BA,AR,AC,AA,AY,AQ,BD,EX,BB,A7,EW,BL,BG,BU,C8,BO,AB,BC,BP,↓reduceIte,Nat.reduceEqDiff,Nat.zero_add,Option.getD_some,Bool.not_false,enP,P7,H7,GV,IU,bxM,CX XA,RO,CW hi,CP KA hi,RP,List.length_map]
  refine CS (fun n F H => ∃ k,n+k=m.crs[i].pts.length∧F 2 = .ptr h.length 0 0∧F 13 = .sl m.crs[i].pm 1 (m.crs[i].pts.map encI)∧F 14 = .int .i64 m.crs[i].pts.length∧F 15 = .int .i64 (k:Nat)∧H[h.length]? = some (.live 2 [DC m])∧ext h H∧(∀ b,isB (F 5) b→h.length < b)∧outG 1 EU h (szs m (m.crs[i].pts.take k)) (F 5) H) m.crs[i].pts.length ⟨0,by simp,by simp -implicitDefEqProofs only [AA,↓reduceIte,Nat.reduceEqDiff],by simp -implicitDefEqProofs only [AA,↓reduceIte,Nat.reduceEqDiff],by simp -implicitDefEqProofs only [AA,↓reduceIte,Nat.reduceEqDiff],by simp -implicitDefEqProofs only [AA,↓reduceIte]; rfl,CQ _ _,(ext.rfl' h).app _,fun b hb=>hb.elim,outG.nil _ _ _ _⟩ ?_
  rintro n F H ⟨k,hk,f2,f13,f14,f15,hb,he,hlt,ho⟩
  simp -implicitDefEqProofs only [A8,AX,BF,AZ,AU,A9,AL,AO,AJ,BA,AR,AC,AA,AY,BN,AB,CO,↓reduceIte,Option.getD_some,Bool.not_false,enP,f14,f15]
  refine CG (fun hc => ?_) (fun hc => ?_)
  ·have hk':k < m.crs[i].pts.length:=by simpa using hc
   obtain ⟨s,ls⟩:=hh.ld hk' H
   have hzl:(szs m (m.crs[i].pts.take k)).length < 8388608:=by unfold szs; simp; omega
   obtain ⟨v',H',ha,ho',hkeep,he',hle,hb'⟩:=ho.append ML sz3 RV RF (by omega) hzl he (G5 m m.crs[i].pts[k]).length
   simp -implicitDefEqProofs only [E8,FI,A8,BM,AX,BK,AZ,AU,A9,AL,AO,AJ,BA,AR,AC,AA,AY,BB,A7,EA,BL,BG,BU,C8,FT,BO,AB,↓reduceIte,Nat.reduceEqDiff,Nat.add_zero,Nat.zero_add,Option.getD_some,Bool.not_false,enP,MV,GZ,PI,HZ,IL,f2,f13,f15,CW hk',CP ag3 hk',encI0,AEB hb,hh.ix hk',ls,List.length_map,U1]
   refine FK (v:=v') (h:=H') (by rw [show [[AV.int .i64 ((G5 m m.crs[i].pts[k]).length:Int)]] = [EU (G5 m m.crs[i].pts[k]).length] from rfl,ha]) ?_
   simp -implicitDefEqProofs only [AX,AZ,DU,DZ,AU,A9,AL,AO,AJ,BA,AR,AC,AA,AY,AQ,BD,BB,A7,BN,AB,CR,↓reduceIte,Nat.reduceEqDiff,Option.getD_some,Bool.not_false,enP,f15,CB (show k < 9223372036854775807 by omega)]
   refine ⟨n - 1,by omega,k+1,by omega,f2,f13,f14,rfl,hkeep _ _ hb (fun e=>by have:=hlt _ e; omega),he',fun b hbb => ?_,?_⟩
   ·have:=hb' b hbb; have:=CE hb; omega
   ·rw [AFR m m.crs[i].pts k hk']; exact ho'
  ·have hk' : ¬ k < m.crs[i].pts.length:=by simpa using hc
   rw [List.take_of_length_le (by omega)] at ho
   simp -implicitDefEqProofs only [A8,AX,BJ,CU,AZ,DR,EB,EF,CK,AU,A9,AL,AO,AJ,BA,AR,AC,AA,AY,BB,A7,↓reduceIte,Nat.reduceEqDiff,Option.getD_some,Bool.not_false]
   exact ⟨he,ho⟩
 have hnm:nm (szs m m.crs[i].pts)=SM.any:=by
  have:=JE m m.crs[i].pts
  cases hx:szs m m.crs[i].pts with
  | nil=>rw [hx] at this; simp at this; omega
  | cons a l=>rfl
 rw [hnm] at hp
 exact hp
theorem XL (G:Nat→AV) (m:Mo) (i:Nat) (hi:i < m.crs.length) (hg:CrGood m m.crs[i]) (hf:Full m) (h:Hp):PCall (En G) 139 [.agg (DC m),.int .i64 (i:Int)] h (.int .i64 (FM (szs m m.crs[i].pts))):=by
 refine ACalls.pure0 rfl ?_
 have hfour:=hg.four
 have hs:=hf.szs hg.here
 have hsl:=JE m m.crs[i].pts
 have hx : ∃ x,h ++ [ABlk.live 2 [DC m]]=h ++ x:=⟨_,rfl⟩
 refine BX (H:=Hint.none) (enM G) Tryz.func139 rfl (by kernel_rfl) (by kernel_rfl) (Nat.le_of_ble_eq_true (by kernel_rfl)) ?_
 show awp _ _ _ _ _ (EJ _ [.tmp 4] _)
 simp -implicitDefEqProofs only [A8,AX,AZ,AU,A9,AL,AO,AJ,BA,AR,AC,AA,AY,AQ,BS,BD,BB,A7,EW,BL,BV,BR,BO,AB,BC,BP,List.map_cons,List.map_nil,List.append_nil,↓reduceIte,Nat.reduceEqDiff,Option.getD_some,Bool.not_false,enP,bxM,ldM (CQ h (.live 2 [DC m]))]
 refine (XI G m i hi hg _).use ?_
 simp -implicitDefEqProofs only [A8,AX,BK,BF,AZ,DL,AU,A9,AL,AO,AJ,BA,AR,AC,AA,AY,AQ,BS,BD,BB,A7,BL,F9,BV,BR,AB,ER,BC,BP,List.map_cons,List.map_nil,List.append_nil,↓reduceIte,Nat.reduceEqDiff,Option.getD_some,Bool.not_true,Bool.not_false,enP,ldM (CQ h (.live 2 [DC m]))]
 refine (RD G m i hi hg _).use ?_
 simp -implicitDefEqProofs only [BM,AZ,AU,A9,AL,AO,AJ,BA,AR,AC,AA,AY,AQ,BD,BB,C8,AB,↓reduceIte,Option.getD_some,Bool.not_false,enP,GV,List.length_map]
 generalize szs m m.crs[i].pts=l at hs hsl ⊢
 have hp : ∀ k,FM (l.take k)≤16777216:=fun k=>by
  have:=ZR (l.take k) 4 (fun n hn=>(hs n (List.mem_of_mem_take hn)).2) (by rw [List.length_take]; omega)
  simpa using this
 refine CS (fun n F H => ∃ k,n+k=l.length∧F 5 = .int .i64 (FM (l.take k))∧F 14 = .sl .any 1 (l.map EU)∧F 15 = .int .i64 l.length∧F 16 = .int .i64 (k:Nat)∧H=h ++ [ABlk.live 2 [DC m]]) l.length ⟨0,by simp,by simp -implicitDefEqProofs only [AA,↓reduceIte,Nat.reduceEqDiff]; rfl,by simp -implicitDefEqProofs only [AA,↓reduceIte,Nat.reduceEqDiff],by simp -implicitDefEqProofs only [AA,↓reduceIte,Nat.reduceEqDiff],by simp -implicitDefEqProofs only [AA,↓reduceIte]; rfl,rfl⟩ ?_
 rintro n F H ⟨k,hk,f5,f14,f15,f16,rfl⟩
 simp -implicitDefEqProofs only [A8,AX,BF,AZ,AU,A9,AL,AO,AJ,BA,AR,AC,AA,AY,BN,AB,CO,↓reduceIte,Option.getD_some,Bool.not_false,enP,f15,f16]
 refine CG (fun hc => ?_) (fun hc => ?_)
 ·have hk':k < l.length:=by simpa using hc
  have h1:=hp (k+1)
  rw [MB l k hk'] at h1
  have hw:IntKind.i64.wrap ((FM (l.take k):Int) * (l[k]:Int))=((FM (l.take (k+1)):Nat):Int):=by
   rw [MB l k hk',← Int.natCast_mul,RY (by omega)]
  simp -implicitDefEqProofs only [A8,BM,AX,BK,AZ,DU,DZ,AU,A9,AL,AO,AJ,BA,AR,AC,AA,AY,AQ,BD,BB,A7,BL,BN,BU,AB,CR,TS,↓reduceIte,Nat.reduceEqDiff,Option.getD_some,Bool.not_false,enP,IL,f5,f14,f16,CW hk',CP ag3 hk',SK,hw,CB (show k < 9223372036854775807 by omega)]
  exact ⟨n - 1,by omega,k+1,by omega,rfl,trivial,f15,rfl,trivial⟩
 ·have hk' : ¬ k < l.length:=by simpa using hc
  rw [List.take_of_length_le (by omega)] at f5
  simp -implicitDefEqProofs only [A8,AX,BJ,CU,AZ,DR,EB,EF,CK,AU,A9,AL,AO,AJ,BA,AR,AC,AA,AY,BB,A7,↓reduceIte,Nat.reduceEqDiff,Option.getD_some,Bool.not_false,f5]
  exact ⟨trivial,hx⟩
/-- the number of a combination, as the machine counts -/
def ABV:List Nat→List Int→Int→Int
 | n :: ns,x :: xs,z=>ABV ns xs (IntKind.i64.wrap (IntKind.i64.wrap (z * (n:Int))+x))
 | _,_,z=>z
theorem AGW (ns:List Nat) (z:Int):ABV ns [] z=z:=by cases ns <;> rfl
theorem Z9 : ∀ {ns:List Nat} {l:List Int},KM ns l=true→∀ (k:Nat) (hk:k < l.length) (hp:k < ns.length),0≤l[k]∧l[k] < (ns[k]:Int)
 | n :: ns,b :: bs,h,k,hk,hp=>by
   simp only [KM,Bool.and_eq_true,decide_eq_true_eq] at h
   cases k with
   | zero=>exact h.1
   | succ k=>exact Z9 (ns:=ns) h.2 k (by simpa using hk) (by simpa using hp)
 | [],b :: bs,h,k,hk,hp=>by simp at hp
 | _,[],h,k,hk,hp=>by simp at hk
theorem AEF (G:Nat→AV) (m:Mo) (i:Nat) (hi:i < m.crs.length) (hg:CrGood m m.crs[i]) (l:List Int) (s:SM) (hin:KM (szs m m.crs[i].pts) l=true) (h:Hp):PCall (En G) 186 [.agg (DC m),.int .i64 (i:Int),.sl s 1 (l.map encI)] h (.tup [.int .i64 (ABV (szs m m.crs[i].pts) l 0),.bool true]):=by
 have hfour:=hg.four
 have hsl:=JE m m.crs[i].pts
 have hlen:=NP hin
 refine ACalls.pure 2 (R:=fun v H=>v = .tup [.int .i64 (ABV (szs m m.crs[i].pts) l 0),.bool true]∧∃ x,H=h ++ x) ?_ (fun v h' ⟨e,x⟩=>⟨x,by subst e; rfl⟩)
 have hx : ∃ x,h ++ [ABlk.live 2 [DC m]]=h ++ x:=⟨_,rfl⟩
 refine BX (H:=Hint.none) (enM G) Tryz.func186 rfl (by kernel_rfl) (by kernel_rfl) (Nat.le_of_ble_eq_true (by kernel_rfl)) ?_
 show awp _ _ _ _ _ (EJ _ [.tmp 6,.tmp 7] _)
 simp -implicitDefEqProofs only [A8,AX,AZ,AU,A9,AL,AO,AJ,BA,AR,AC,AA,AY,AQ,BS,BD,BI,BB,A7,EW,BL,BV,BR,BO,AB,BC,BP,List.map_cons,List.map_nil,List.append_nil,↓reduceIte,Nat.reduceEqDiff,Option.getD_some,Bool.not_false,enP,bxM,ldM (CQ h (.live 2 [DC m]))]
 refine (XI G m i hi hg _).use ?_
 simp -implicitDefEqProofs only [A8,AX,BK,BF,AZ,DL,AU,A9,AL,AO,AJ,BA,AR,AC,AA,AY,BS,BB,BL,F9,BV,BR,AB,ER,BC,BP,List.map_cons,List.map_nil,List.append_nil,↓reduceIte,Nat.reduceEqDiff,Option.getD_some,Bool.not_true,Bool.not_false,enP,ldM (CQ h (.live 2 [DC m]))]
 refine (RD G m i hi hg _).use ?_
 generalize szs m m.crs[i].pts=ns at hin hsl hlen ⊢
 have hne:((l.length:Int) != (ns.length:Int))=false:=by rw [hlen]; simp
 simp -implicitDefEqProofs only [A8,BM,AX,BK,BF,AZ,DL,AU,A9,AL,AO,AJ,BA,AR,AC,AA,AY,AQ,BD,BB,A7,BN,C8,AB,ED,BC,BP,↓reduceIte,Nat.reduceEqDiff,Option.getD_some,Bool.not_false,enP,GV,List.length_map,hne]
 refine CS (fun n F H => ∃ k,n+k=l.length∧F 8 = .sl .any 1 (ns.map EU)∧(∃ z,F 9 = .int .i64 z∧ABV ns l 0=ABV (ns.drop k) (l.drop k) z)∧F 24 = .sl s 1 (l.map encI)∧F 25 = .int .i64 l.length∧F 26 = .int .i64 (k:Nat)∧H=h ++ [ABlk.live 2 [DC m]]) l.length ⟨0,by simp,by simp -implicitDefEqProofs only [AA,↓reduceIte,Nat.reduceEqDiff],⟨0,rfl,rfl⟩,by simp -implicitDefEqProofs only [AA,↓reduceIte,Nat.reduceEqDiff],by simp -implicitDefEqProofs only [AA,↓reduceIte,Nat.reduceEqDiff],by simp -implicitDefEqProofs only [AA,↓reduceIte]; rfl,rfl⟩ ?_
 rintro n F H ⟨k,hk,f8,⟨z,f9,hz⟩,f24,f25,f26,rfl⟩
 simp -implicitDefEqProofs only [A8,AX,BF,AZ,AU,A9,AL,AO,AJ,BA,AR,AC,AA,AY,BN,AB,CO,↓reduceIte,Option.getD_some,Bool.not_false,enP,f25,f26]
 refine CG (fun hc => ?_) (fun hc => ?_)
 ·have hk':k < l.length:=by simpa using hc
  have hkn:k < ns.length:=by omega
  obtain ⟨h0,h1⟩:=Z9 hin k hk' hkn
  have d0:decide (l[k] < 0)=false:=by simp; omega
  have d1:decide (l[k]≥(ns[k]:Int))=false:=by simp; omega
  rw [List.drop_eq_getElem_cons hk',List.drop_eq_getElem_cons hkn] at hz
  simp -implicitDefEqProofs only [A8,BM,AX,BK,BF,AZ,DU,DZ,DL,AU,A9,BH,BQ,BZ,EH,AL,AO,AJ,BA,AR,AC,AA,AY,AQ,BD,BI,BB,A7,CF,DK,BL,BN,BU,AB,CR,TS,CO,F3,↓reduceIte,Nat.reduceEqDiff,Option.getD_some,Bool.not_false,enP,IL,f8,f9,f24,f26,CW hk',CP ag3 hk',encI0,d0,CW hkn,CP ag3 hkn,SK,d1,CB (show k < 9223372036854775807 by omega)]
  exact ⟨n - 1,by omega,k+1,by omega,trivial,⟨_,rfl,hz⟩,trivial,f25,rfl,trivial⟩
 ·have hk' : ¬ k < l.length:=by simpa using hc
  rw [List.drop_eq_nil_of_le (show l.length≤k by omega),AGW] at hz
  simp -implicitDefEqProofs only [A8,AX,BJ,CU,AZ,DR,EB,EF,F6,AU,A9,AL,AO,AJ,BA,AR,AC,AA,AY,AQ,BI,BB,A7,↓reduceIte,Nat.reduceEqDiff,Option.getD_some,Bool.not_false,f9,hz]
  exact ⟨trivial,hx⟩
end Go.Proofs.YtocilianjfhifaaGreatDoor.Cov
/- Tuple and Excluded of layer 47: the program; no condition but the bounds on lengths. -/
set_option linter.unusedSimpArgs false
set_option maxRecDepth 8000
namespace Go.Proofs.YtocilianjfhifaaGreatDoor.Cov
open Go Go.Proofs Go.Proofs.YtocilianjfhifaaGreatDoor.Sm Go.Proofs.YtocilianjfhifaaGreatDoor.Bins Go.RowKit

theorem AZJ {H:Hp} {o n:Nat} {rows ys:List (List AV)} {s:SM} (ho:H[o]? = some (.live 1 rows)) (hr:rows.length=n) (hy:ys.length=n):ADS Tryz.prog H 57 (.own o 0 n) (.sl s 1 ys)=some (.int .i64 (n:Int),H.set o (.live 1 ys)):=by
 have hrs:PO rows 0 ys=ys:=by
  unfold PO
  rw [List.take_zero,List.nil_append,List.drop_eq_nil_of_le (by omega),List.append_nil]
 have h1:min (n:Int) (n:Int)=(n:Int):=by omega
 unfold ADS
 simp only [ML,sz3,J7,ho]
 rw [if_pos ⟨trivial,.inl trivial,by omega⟩]
 simp [hy,hrs,List.take_of_length_le (Nat.le_of_eq hy)]
/-- a pair of a list of the call's own and a truth value, as its caller sees it -/
theorem ACO {E:Env} {f:FuncId} {args:List AV} {h:Hp} {ys:List Nat} {b:Bool} (hc:ACalls E f args h fun v H=>ext h H∧∃ o,h.length≤o∧v = .tup [.own o 0 ys.length,.bool b]∧H[o]? = some (.live 1 (ys.map EU))) :
  PCall E f args h (.tup [.sl .any 1 (ys.map EU),.bool b]):=by
 refine ACalls.pure 3 hc ?_
 rintro v H ⟨hex,o,ho1,rfl,ho⟩
 refine ⟨hex,?_⟩
 show AV.tup [IM h.length H 2 (.own o 0 ys.length),IM h.length H 2 (.bool b)]=_
 rw [VM ANG ho1 ho]
 rfl
theorem ADZ (G:Nat→AV) (m:Mo) (i:Nat) (hi:i < m.crs.length) (hg:CrGood m m.crs[i]) (hf:Full m) (K:Nat) (hK:K < FM (szs m m.crs[i].pts)) (h:Hp):PCall (En G) 140 [.agg (DC m),.int .i64 (i:Int),.int .i64 (K:Int)] h (.tup [.sl .any 1 ((L9 (szs m m.crs[i].pts) K).map encI),.bool true]):=by
 have hprod:=hg.prod
 have hs:=hf.szs hg.here
 have hsl:=JE m m.crs[i].pts
 have hfour:=hg.four
 show PCall (En G) 140 _ h (.tup [.sl .any 1 (((tupF (szs m m.crs[i].pts) K).1.map fun n:Nat=>(n:Int)).map encI),.bool true])
 rw [← Y0]
 refine ACO ?_
 rw [LP]
 refine BX (H:=Hint.none) (enM G) Tryz.func140 rfl (by kernel_rfl) (by kernel_rfl) (Nat.le_of_ble_eq_true (by kernel_rfl)) ?_
 show awp _ _ _ _ _ (EJ _ [.tmp 6,.tmp 7] _)
 have d0:decide ((K:Int) < 0)=false:=by simp
 simp -implicitDefEqProofs only [A8,AX,AZ,AU,A9,BH,BQ,BZ,EH,AL,AO,AJ,BA,AR,AC,AA,AY,AQ,BS,BD,BI,EX,BB,A7,EW,BL,BN,BV,BR,BO,AB,CO,BC,BP,List.map_cons,List.map_nil,List.append_nil,↓reduceIte,Nat.reduceEqDiff,Option.getD_some,Bool.not_false,enP,bxM,d0,ldM (CQ h (.live 2 [DC m]))]
 refine (XL G m i hi hg hf _).use ?_
 have d1:decide ((K:Int)≥((FM (szs m m.crs[i].pts):Nat):Int))=false:=by simp; omega
 simp -implicitDefEqProofs only [A8,AX,BK,BF,AZ,DL,AU,A9,BH,BQ,BZ,EH,AL,AO,AJ,BA,AR,AC,AA,AY,AQ,BS,BI,BB,CF,DK,BL,BN,BV,BR,AB,F3,BC,BP,List.map_cons,List.map_nil,List.append_nil,↓reduceIte,Nat.reduceEqDiff,Option.getD_some,Bool.not_false,enP,d1,ldM (CQ h (.live 2 [DC m]))]
 refine (RD G m i hi hg _).use ?_
 clear d1
 generalize szs m m.crs[i].pts=ns at hs hsl hK hprod ⊢
 have hlt:h.length≤(h ++ [ABlk.live 2 [DC m]]).length:=by simp
 have he0:ext h (h ++ [ABlk.live 2 [DC m]]):=(ext.rfl' h).app _
 generalize h ++ [ABlk.live 2 [DC m]]=H at hlt he0 ⊢
 have hcp:=AZJ (s := .any) (ys:=ns.map EU) (CQ H (.live 1 ((List.replicate ns.length 0).map EU))) (n:=ns.length) (by simp) (by simp)
 rw [YH] at hcp
 simp -implicitDefEqProofs only [A8,BM,AX,AZ,AU,A9,AL,AO,AJ,BA,AR,AC,AA,AY,AQ,BD,BB,A7,BN,I9,C8,AVG,BO,AB,J8,↓reduceIte,Nat.reduceEqDiff,Option.getD_some,Bool.not_false,enP,GV,List.length_map,AST H ns.length (by omega),hcp]
 rw [wrap_i64 (n:=(ns.length:Int) - 1) (by omega) (by omega)]
 refine CS (fun n F H' => ∃ j,n=j∧j≤ns.length∧F 8 = .sl .any 1 (ns.map EU)∧F 9 = .own H.length 0 ns.length∧F 10 = .int .i64 ((j:Int) - 1)∧F 2 = .int .i64 ((tupF (ns.drop j) K).2:Nat)∧ext h H'∧H'[H.length]? = some (.live 1 ((ns.take j ++ (tupF (ns.drop j) K).1).map EU))) ns.length ⟨ns.length,rfl,Nat.le_refl _,by simp -implicitDefEqProofs only [AA,↓reduceIte,Nat.reduceEqDiff],by simp -implicitDefEqProofs only [AA,↓reduceIte,Nat.reduceEqDiff],by simp -implicitDefEqProofs only [AA,↓reduceIte],by simp -implicitDefEqProofs only [AA,BC,BP,↓reduceIte,Nat.reduceEqDiff]; rw [List.drop_eq_nil_of_le (Nat.le_refl _)]; rfl,he0.app _,?_⟩ ?_
 ·rw [List.drop_eq_nil_of_le (Nat.le_refl _),List.take_of_length_le (Nat.le_refl _)]
  simp only [tupF,List.append_nil]
  exact CQ _ _
 rintro n F H' ⟨j,rfl,hj,f8,f9,f10,f2,he,ho⟩
 simp -implicitDefEqProofs only [A8,AX,BF,AZ,AU,A9,AL,AO,AJ,BA,AR,AC,AA,AY,AQ,BD,BB,BN,AB,F3,↓reduceIte,Option.getD_some,Bool.not_false,enP,f10]
 cases n with
 | zero =>
   have:decide ((((0:Nat):Int) - 1)≥0)=false:=by decide
   simp -implicitDefEqProofs only [A8,AX,BJ,CU,AZ,DR,EB,EF,F6,DL,AU,A9,AL,AO,AJ,BA,AR,AC,AA,AY,AQ,BI,BB,A7,↓reduceIte,Nat.reduceEqDiff,Option.getD_some,Bool.not_false,this,f9]
   rw [List.take_zero,List.nil_append,List.drop_zero] at ho
   exact ⟨he,H.length,hlt,rfl,ho⟩
 | succ j =>
   have hd:decide ((j:Int)≥0)=true:=by simp
   have hj':j < ns.length:=by omega
   have h1:=(hs _ (List.getElem_mem hj')).1
   have e1:(((j+1:Nat):Int) - 1)=(j:Int):=by omega
   have hst:=tup_step (K:=K) hj'
   have hle:=YG (ns.drop (j+1)) K
   generalize hr:(tupF (ns.drop (j+1)) K)=r at ho f2 hst hle
   have hrow : ∃ v,((ns.take (j+1) ++ r.1).map EU)[j]? = some [v]:=by
    refine ⟨.int .i64 ns[j],?_⟩
    rw [List.getElem?_map,List.getElem?_append_left (by simp; omega),List.getElem?_take_of_lt (by omega),List.getElem?_eq_getElem hj']
    rfl
   have hset:=ZF (f:=EU) (pre:=ns) (out:=r.1) (j:=j) (x:=r.2 % ns[j]) hj'
   simp -implicitDefEqProofs only [A8,BM,AX,BK,AZ,DU,DZ,DI,AU,A9,AL,AO,AJ,BA,AR,AC,EQ,AA,AY,AQ,BD,BB,A7,BL,EC,BN,BU,AB,DF,J8,↓reduceIte,Nat.reduceEqDiff,Nat.zero_add,Option.getD_some,Bool.not_false,enP,IL,Option.getD_none,hd,f2,f8,f9,f10,e1,CW hj',CP ag3 hj',SK,Q7 ho hj',YK _ _ h1,AD7 _ _ h1 (show r.2≤9223372036854775807 by omega),AIN ho hrow,hset]
   refine ⟨j,by omega,j,rfl,by omega,trivial,trivial,?_,?_,he.set hlt _,?_⟩
   ·rw [wrap_i64 (by omega) (by omega)]
   ·rw [hst]
   ·rw [hst]; exact EI ho
theorem AHD (G:Nat→AV) (l:List Int) (s:SM) (b:Nat) (r:Is) (h:Hp) (hb:h[b]? = some (.live 1 [[.sl s 1 (l.map encI)]])) (hl:l.length≤1099511627776) :
  PCall (En G) 187 [.sl r.m 1 (r.l.map encI),.ptr b 0 0] h (.bool (eqL r.l l)):=by
 refine BX (H:=Hint.none) (enM G) Tryz.func187 rfl (by kernel_rfl) (by kernel_rfl) (Nat.le_of_ble_eq_true (by kernel_rfl)) ?_
 show awp _ _ _ _ _ (EJ _ [.tmp 3] _)
 simp -implicitDefEqProofs only [A8,AX,AZ,AU,A9,AL,AO,AJ,BA,AR,AC,AA,AY,AQ,BS,BI,BB,A7,BL,BV,BR,AB,BC,BP,List.map_cons,List.map_nil,List.append_nil,↓reduceIte,Nat.reduceEqDiff,Option.getD_some,Bool.not_false,enP,KG KA hb]
 refine (UY G r.l l r.m s h hl).use ?_
 simp -implicitDefEqProofs only [BJ,AZ,CK,AU,A9,AL,AO,AJ,BA,AR,AC,AA,AY,A7,↓reduceIte,Option.getD_some,Bool.not_false]
 exact ⟨trivial,trivial⟩
theorem AB0 (G:Nat→AV) (m:Mo) (i:Nat) (hi:i < m.crs.length) (hg:CrGood m m.crs[i]) (l:List Int) (s:SM) (hin:KM (szs m m.crs[i].pts) l=true) (h:Hp):PCall (En G) 141 [.agg (DC m),.int .i64 (i:Int),.sl s 1 (l.map encI)] h (.bool (!OE m m.crs[i] l)):=by
 refine ACalls.pure0 rfl ?_
 have hh:=hg.here
 have hfour:=hg.four
 have hnum:=hg.num
 have hlen:l.length=m.crs[i].pts.length:=by have:=NP hin; rw [JE] at this; omega
 refine BX (H:=Hint.none) (enM G) Tryz.func141 rfl (by kernel_rfl) (by kernel_rfl) (Nat.le_of_ble_eq_true (by kernel_rfl)) ?_
 show awp _ _ _ _ _ (EJ _ [.tmp 6] _)
 have gm:(h ++ [ABlk.live 2 [DC m]] ++ [ABlk.live 1 [[.sl s 1 (l.map encI)]]])[h.length]? = some (.live 2 [DC m]):=C9 (CQ _ _)
 have gl:=CQ (h ++ [ABlk.live 2 [DC m]]) (.live 1 [[.sl s 1 (l.map encI)]])
 have hx : ∃ x,h ++ [ABlk.live 2 [DC m]] ++ [ABlk.live 1 [[.sl s 1 (l.map encI)]]]=h ++ x:=⟨_,List.append_assoc _ _ _⟩
 simp -implicitDefEqProofs only [AQ1,A8,AX,AZ,AU,A9,AL,AO,AJ,BA,AR,AC,AA,AY,AQ,BI,A7,EW,BL,BO,BC,BP,↓reduceIte,Nat.reduceEqDiff,Option.getD_some,Bool.not_false,enP,bxM]
 generalize h ++ [ABlk.live 2 [DC m]] ++ [ABlk.live 1 [[.sl s 1 (l.map encI)]]]=H at gm gl hx ⊢
 generalize (h ++ [ABlk.live 2 [DC m]]).length=lb at gl ⊢
 simp -implicitDefEqProofs only [AU,AL,AO,AJ,BA,AR,AC,AA,AY,BS,BB,BL,BV,BR,AB,BC,BP,List.map_cons,List.map_nil,List.append_nil,↓reduceIte,Nat.reduceEqDiff,Option.getD_some,Bool.not_false,enP,ldM gm,KG KA gl]
 refine (AEF G m i hi hg l s hin _).use ?_
 simp -implicitDefEqProofs only [List.getElem?_cons_zero,List.getElem?_cons_succ,A8,BM,AX,BK,BF,AZ,DL,AU,A9,AL,AO,AJ,BA,AR,AC,AA,AY,AQ,BD,BB,A7,BL,F9,BG,BU,D8,FB,C8,AB,ER,BC,BP,↓reduceIte,Nat.reduceEqDiff,Nat.zero_add,Option.getD_some,Bool.not_true,Bool.not_false,enP,P7,H7,GV,IU,ABT gm,CW hi,CP KA hi,RP,List.length_map]
 have hkb:=PQ m m.crs[i].pts l
 refine FO 0 (fun F H'=>F 1 = .int .i64 (i:Nat)∧F 3 = .ptr h.length 0 0∧F 5 = .ptr lb 0 0∧H'=H∧KQ m m.crs[i].pts l=true) (fun F H'=>F 6 = .bool true∧H'=H∧KQ m m.crs[i].pts l=false) ?_ ?_ ?_
 ·refine CS (fun n F H' => ∃ k,n+k=l.length∧F 1 = .int .i64 (i:Nat)∧F 3 = .ptr h.length 0 0∧F 5 = .ptr lb 0 0∧F 25 = .sl m.crs[i].pm 1 (m.crs[i].pts.map encI)∧F 26 = .int .i64 m.crs[i].pts.length∧F 27 = .int .i64 (k:Nat)∧H'=H∧KQ m m.crs[i].pts l=KQ m (m.crs[i].pts.drop k) (l.drop k)) l.length ⟨0,by simp,by simp -implicitDefEqProofs only [AA,BC,BP,↓reduceIte,Nat.reduceEqDiff],by simp -implicitDefEqProofs only [AA,↓reduceIte,Nat.reduceEqDiff],by simp -implicitDefEqProofs only [AA,↓reduceIte,Nat.reduceEqDiff],by simp -implicitDefEqProofs only [AA,↓reduceIte,Nat.reduceEqDiff],by simp -implicitDefEqProofs only [AA,↓reduceIte,Nat.reduceEqDiff],by simp -implicitDefEqProofs only [AA,↓reduceIte]; rfl,rfl,rfl⟩ ?_
  rintro n F H' ⟨k,hk,f1,f3,f5,f25,f26,f27,rfl,hk0⟩
  simp -implicitDefEqProofs only [A8,AX,BF,AZ,AU,A9,AL,AO,AJ,BA,AR,AC,AA,AY,BN,AB,CO,↓reduceIte,Option.getD_some,Bool.not_false,enP,f26,f27]
  refine CG (fun hc => ?_) (fun hc => ?_)
  ·have hkc:k < m.crs[i].pts.length:=by simpa using hc
   have hk':k < l.length:=by omega
   rw [hkb k hkc hk'] at hk0
   obtain ⟨h0,h1⟩:=VK hin k hk' hkc
   obtain ⟨s2,ls⟩:=hh.ld hkc H'
   have hlt:l[k].toNat < (G5 m m.crs[i].pts[k]).length:=by omega
   simp -implicitDefEqProofs only [A8,BM,AX,BK,AZ,AU,A9,AL,AO,AJ,BA,AR,AC,AA,AY,BB,A7,BL,BU,AB,↓reduceIte,Nat.reduceEqDiff,Option.getD_some,Bool.not_false,enP,IL,f25,f27,CW hkc,CP ag3 hkc,encI0]
   refine EG (by kernel_rfl) ?_
   simp -implicitDefEqProofs only [FJ,DT,CZ,EO,DV,ET,EN,GK,DW,DN,BF,AZ,AL,AA,AY,AQ,BD,BL,BN,BG,BU,AB,ED,↓reduceIte,Nat.reduceEqDiff,Nat.reduceAdd,Nat.add_zero,Nat.zero_add,Option.getD_some,enP,MV,GZ,VH,HZ,IL,KZ,bne,f3,f5,f27,AEB gm,hh.ix hkc,ls,KG KA gl,CW hk',CP ag3 hk',encI0,AE6 h0 h1,CP ag3 hlt,PT,VZ h0 h1]
   cases hkd:(SE m m.crs[i].pts[k] l[k] == 0)
   ·simp -implicitDefEqProofs only [A8,AX,BJ,AZ,CJ,D6,KC,EZ,DI,AU,A9,AL,AO,AJ,BA,AR,AC,AA,AQ,BI,A7,↓reduceIte,Option.getD_some,Bool.not_false]
    exact ⟨trivial,trivial,by rw [hk0,hkd]; rfl⟩
   ·simp -implicitDefEqProofs only [AX,BK,AZ,DU,DZ,DL,AU,A9,AL,AO,AJ,BA,AR,AC,AA,AY,AQ,BD,BB,BN,AB,CR,↓reduceIte,Nat.reduceEqDiff,Option.getD_some,Bool.not_true,Bool.not_false,enP,f27,CB (show k < 9223372036854775807 by omega)]
    exact ⟨n - 1,by omega,k+1,by omega,f1,f3,f5,f25,f26,rfl,trivial,by rw [hk0,hkd]; rfl⟩
  ·have hk' : ¬ k < m.crs[i].pts.length:=by simpa using hc
   simp -implicitDefEqProofs only [CU,DR,II,EF,AA,↓reduceIte,Nat.reduceEqDiff]
   exact ⟨f1,f3,f5,trivial,by rw [hk0,List.drop_eq_nil_of_le (show l.length≤k by omega),Q6]⟩
 ·rintro F H' ⟨f1,f3,f5,rfl,hk⟩
  simp -implicitDefEqProofs only [A8,AX,AZ,EB,AU,AL,AO,AJ,BA,AR,AC,AA,AY,BS,BB,BL,KO,BG,BU,BV,BR,AB,List.map_cons,List.map_nil,List.append_nil,↓reduceIte,Nat.reduceEqDiff,Nat.zero_add,Option.getD_some,Bool.not_false,enP,P7,H7,NU,f1,f3,f5,ABT gm,CW hi,CP QR hi,AHN]
  refine (O9 G m.crs[i].excl m.crs[i].xm 187 _ (fun x=>eqL x.l l) _ (by omega) fun r=>AHD G l s _ r _ gl (by omega)).use ?_
  simp -implicitDefEqProofs only [BJ,AZ,CK,AU,A9,AL,AO,AJ,BA,AR,AC,AA,AY,A7,↓reduceIte,Option.getD_some,Bool.not_false]
  exact ⟨by unfold OE; rw [hk]; simp,hx⟩
 ·rintro F H' ⟨f6,rfl,hk⟩
  simp -implicitDefEqProofs only [CJ,D6,CK,f6]
  exact ⟨by unfold OE; rw [hk]; rfl,hx⟩
end Go.Proofs.YtocilianjfhifaaGreatDoor.Cov
/- Combinations of layer 47: the reference; no condition but the bounds on lengths. -/
set_option linter.unusedSimpArgs false
set_option maxRecDepth 8000
namespace Go.Proofs.YtocilianjfhifaaGreatDoor.Cov
open Go Go.Proofs Go.Proofs.YtocilianjfhifaaGreatDoor.Sm Go.Proofs.YtocilianjfhifaaGreatDoor.Bins Go.RowKit

theorem Y7 (G:Nat→AV) (m:Mo) (i:Nat) (hi:i < m.crs.length) (hg:CrGood m m.crs[i]) (h:Hp):PCall (En G) 189 [.agg (DC m),.int .i64 (i:Int)] h (.bool true):=by
 refine ACalls.pure0 rfl ?_
 have hfour:=hg.four
 have gm:=CQ h (.live 2 [DC m])
 have hx : ∃ x,h ++ [ABlk.live 2 [DC m]]=h ++ x:=⟨_,rfl⟩
 refine BX (H:=Hint.none) (enM G) Tryz.func189 rfl (by kernel_rfl) (by kernel_rfl) (Nat.le_of_ble_eq_true (by kernel_rfl)) ?_
 show awp _ _ _ _ _ (EJ _ [.tmp 4] _)
 have d0:decide ((i:Int) < 0)=false:=by simp
 have d1:decide ((i:Int)≥(m.crs.length:Int))=false:=by simp; omega
 simp -implicitDefEqProofs only [A8,BM,AX,BK,BF,AZ,DL,AU,A9,BH,BQ,BZ,EH,AL,AO,AJ,BA,AR,AC,AA,AY,AQ,BD,BI,BB,A7,CF,DK,EW,BL,BN,BG,BU,C8,BO,AB,CO,F3,BC,BP,↓reduceIte,Nat.reduceEqDiff,Nat.zero_add,Option.getD_some,Bool.not_false,enP,P7,Q5,H7,IU,bxM,d0,ABT gm,List.length_map,d1,CW hi,CP KA hi,RP]
 generalize h ++ [ABlk.live 2 [DC m]]=H at gm hx ⊢
 refine CS (fun n F H' => ∃ k,n+k=m.crs[i].pts.length∧F 2 = .ptr h.length 0 0∧F 5 = .sl m.crs[i].pm 1 (m.crs[i].pts.map encI)∧F 6 = .int .i64 (k:Nat)∧H'=H) m.crs[i].pts.length ⟨0,by simp,by simp -implicitDefEqProofs only [AA,↓reduceIte,Nat.reduceEqDiff],by simp -implicitDefEqProofs only [AA,↓reduceIte,Nat.reduceEqDiff],by simp -implicitDefEqProofs only [AA,↓reduceIte]; rfl,rfl⟩ ?_
 rintro n F H' ⟨k,hk,f2,f5,f6,rfl⟩
 simp -implicitDefEqProofs only [A8,AX,BF,AZ,AU,A9,AL,AO,AJ,BA,AR,AC,AA,AY,BB,BN,C8,AB,CO,↓reduceIte,Nat.reduceEqDiff,Option.getD_some,Bool.not_false,enP,GV,f5,f6,List.length_map]
 refine CG (fun hc => ?_) (fun hc => ?_)
 ·have hk':k < m.crs[i].pts.length:=by simpa using hc
  have hb:=hg.here _ (List.getElem_mem hk')
  have e0:decide (m.crs[i].pts[k] < 0)=false:=by simp; omega
  have e1:decide (m.crs[i].pts[k]≥(m.pts.length:Int))=false:=by simp; omega
  simp -implicitDefEqProofs only [A8,BM,BK,AZ]
  refine EG (by kernel_rfl) ?_
  simp -implicitDefEqProofs only [FJ,DT,CZ,EO,DV,EY,FR,NT,ET,G6,EN,GK,DW,DN,FX,AX,BK,BF,AZ,DU,DZ,DL,AU,A9,BZ,AL,AO,AJ,BA,AR,AC,AA,AY,AQ,BD,BI,BB,A7,CF,DK,BL,BN,BG,BU,C8,AB,CR,CO,F3,↓reduceIte,Nat.reduceEqDiff,Nat.reduceAdd,Nat.add_zero,Option.getD_some,Bool.not_false,enP,OZ,GZ,IL,f2,f5,f6,CW hk',CP ag3 hk',encI0,e0,AEB gm,List.length_map,e1,CB (show k < 9223372036854775807 by omega)]
  exact ⟨n - 1,by omega,k+1,by omega,trivial,trivial,rfl,trivial⟩
 ·simp -implicitDefEqProofs only [A8,AX,BJ,CU,AZ,DR,EB,EF,CK,AU,A9,AL,AO,AJ,BA,AR,AC,AA,AQ,BI,A7,↓reduceIte,Option.getD_some,Bool.not_false]
  exact ⟨trivial,hx⟩
theorem U2 (G:Nat→AV) (m:Mo) (i:Nat) (hi:i < m.crs.length) (hg:CrGood m m.crs[i]) (k:Nat) (hk:k < m.crs[i].pts.length) (h:Hp):PCall (En G) 190 [.agg (DC m),.int .i64 (i:Int),.int .i64 (k:Int)] h (.int .i64 ((G5 m m.crs[i].pts[k]).length:Int)):=by
 refine ACalls.pure0 rfl ?_
 have gm:=CQ h (.live 2 [DC m])
 obtain ⟨s,ls⟩:=hg.here.ld hk (h ++ [ABlk.live 2 [DC m]])
 refine BX (H:=Hint.none) (enM G) Tryz.func190 rfl (by kernel_rfl) (by kernel_rfl) (Nat.le_of_ble_eq_true (by kernel_rfl)) ?_
 show awp _ _ _ _ _ (EJ _ [.tmp 6] _)
 simp -implicitDefEqProofs only [A8,AX,AZ,AU,A9,AL,AO,AJ,BA,AR,AC,AY,AQ,BD,A7,EW,BO,BC,Option.getD_some,Bool.not_false,enP,bxM]
 refine EG (by kernel_rfl) ?_
 simp -implicitDefEqProofs only [FJ,DT,CZ,EO,DV,ET,GM,EN,DW,DN,FX,BJ,AZ,CK,AL,AA,AY,BL,BG,BU,C8,AB,BC,BP,↓reduceIte,Nat.reduceEqDiff,Nat.reduceAdd,Nat.add_zero,Nat.zero_add,Option.getD_some,enP,MV,P7,GZ,H7,PI,HZ,IL,IU,AEB gm,ABT gm,CW hi,CP KA hi,RP,CW hk,CP ag3 hk,encI0,hg.here.ix hk,ls,List.length_map]
 exact ⟨trivial,_,rfl⟩
theorem ZE (G:Nat→AV) (m:Mo) (i:Nat) (hi:i < m.crs.length) (hg:CrGood m m.crs[i]) (hf:Full m) (h:Hp):PCall (En G) 142 [.agg (DC m),.int .i64 (i:Int)] h (.int .i64 (FM (szs m m.crs[i].pts))):=by
 refine ACalls.pure0 rfl ?_
 have hfour:=hg.four
 have hs:=hf.szs hg.here
 have hsl:=JE m m.crs[i].pts
 have hget:=TG m m.crs[i].pts
 have gm:=CQ h (.live 2 [DC m])
 have hx : ∃ x,h ++ [ABlk.live 2 [DC m]]=h ++ x:=⟨_,rfl⟩
 refine BX (H:=Hint.none) (enM G) Tryz.func142 rfl (by kernel_rfl) (by kernel_rfl) (Nat.le_of_ble_eq_true (by kernel_rfl)) ?_
 show awp _ _ _ _ _ (EJ _ [.tmp 4] _)
 simp -implicitDefEqProofs only [A8,AX,AZ,AU,A9,AL,AO,AJ,BA,AR,AC,AA,AY,AQ,BS,BD,BB,A7,EW,BL,BV,BR,BO,AB,BC,BP,List.map_cons,List.map_nil,List.append_nil,↓reduceIte,Nat.reduceEqDiff,Option.getD_some,Bool.not_false,enP,bxM,ldM gm]
 refine (Y7 G m i hi hg _).use ?_
 simp -implicitDefEqProofs only [A8,BM,AX,BK,BF,AZ,DL,AU,A9,AL,AO,AJ,BA,AR,AC,AA,AY,AQ,BD,A7,F9,AB,ER,↓reduceIte,Option.getD_some,Bool.not_true,Bool.not_false]
 generalize h ++ [ABlk.live 2 [DC m]]=H at gm hx ⊢
 generalize szs m m.crs[i].pts=l at hs hsl hget ⊢
 have hp : ∀ k,FM (l.take k)≤16777216:=fun k=>by
  have:=ZR (l.take k) 4 (fun n hn=>(hs n (List.mem_of_mem_take hn)).2) (by rw [List.length_take]; omega)
  simpa using this
 refine CS (fun n F H' => ∃ k,n+k=l.length∧F 1 = .int .i64 (i:Nat)∧F 2 = .ptr h.length 0 0∧F 5 = .int .i64 (FM (l.take k))∧F 6 = .int .i64 (k:Nat)∧H'=H) l.length ⟨0,by simp,by simp -implicitDefEqProofs only [AA,BC,BP,↓reduceIte,Nat.reduceEqDiff],by simp -implicitDefEqProofs only [AA,↓reduceIte,Nat.reduceEqDiff],by simp -implicitDefEqProofs only [AA,↓reduceIte,Nat.reduceEqDiff]; rfl,by simp -implicitDefEqProofs only [AA,↓reduceIte]; rfl,rfl⟩ ?_
 rintro n F H' ⟨k,hk,f1,f2,f5,f6,rfl⟩
 simp -implicitDefEqProofs only [A8,AX,BF,AZ,AU,A9,AL,AO,AJ,BA,AR,AC,AA,AY,BB,BL,BN,BG,BU,C8,AB,CO,↓reduceIte,Nat.reduceEqDiff,Nat.zero_add,Option.getD_some,Bool.not_false,enP,P7,H7,GV,IU,f1,f2,f6,ABT gm,CW hi,CP KA hi,RP,List.length_map]
 refine CG (fun hc => ?_) (fun hc => ?_)
 ·have hkc:k < m.crs[i].pts.length:=by simpa using hc
  have hk':k < l.length:=by omega
  have h1:=hp (k+1)
  rw [MB l k hk'] at h1
  have hgk:l[k]=(G5 m m.crs[i].pts[k]).length:=F4 (hget k hkc)
  have hw:IntKind.i64.wrap ((FM (l.take k):Int) * ((G5 m m.crs[i].pts[k]).length:Int))=((FM (l.take (k+1)):Nat):Int):=by
   rw [← hgk,MB l k hk',← Int.natCast_mul,RY (by omega)]
  simp -implicitDefEqProofs only [A8,BM,AX,BK,AZ,AU,AL,AO,AJ,BA,AR,AC,AA,AY,BS,BB,BL,BV,BR,AB,List.map_cons,List.map_nil,List.append_nil,↓reduceIte,Nat.reduceEqDiff,Option.getD_some,Bool.not_false,enP,f1,f2,f5,f6,ldM gm]
  refine (U2 G m i hi hg k hkc _).use ?_
  simp -implicitDefEqProofs only [AX,AZ,DU,DZ,AU,A9,AL,AO,AJ,BA,AR,AC,AA,AY,AQ,BD,BB,A7,BN,AB,CR,TS,↓reduceIte,Nat.reduceEqDiff,Option.getD_some,Bool.not_false,enP,f6,hw,CB (show k < 9223372036854775807 by omega)]
  exact ⟨n - 1,by omega,k+1,by omega,f1,f2,rfl,rfl,trivial⟩
 ·have hk' : ¬ k < m.crs[i].pts.length:=by simpa using hc
  rw [List.take_of_length_le (by omega)] at f5
  simp -implicitDefEqProofs only [A8,AX,BJ,CU,AZ,DR,EB,EF,CK,AU,A9,AL,AO,AJ,BA,AR,AC,AA,AY,BB,A7,↓reduceIte,Nat.reduceEqDiff,Option.getD_some,Bool.not_false,f5]
  exact ⟨trivial,hx⟩
theorem AFP (G:Nat→AV) (m:Mo) (i:Nat) (hi:i < m.crs.length) (hg:CrGood m m.crs[i]) (hf:Full m) (K:Nat) (hK:K < FM (szs m m.crs[i].pts)) (h:Hp):PCall (En G) 143 [.agg (DC m),.int .i64 (i:Int),.int .i64 (K:Int)] h (.tup [.sl .any 1 ((L9 (szs m m.crs[i].pts) K).map encI),.bool true]):=by
 have hprod:=hg.prod
 have hs:=hf.szs hg.here
 have hsl:=JE m m.crs[i].pts
 have hget:=TG m m.crs[i].pts
 have hfour:=hg.four
 show PCall (En G) 143 _ h (.tup [.sl .any 1 (((tupF (szs m m.crs[i].pts) K).1.map fun n:Nat=>(n:Int)).map encI),.bool true])
 rw [← Y0]
 refine ACO ?_
 rw [LP]
 have gm:=CQ h (.live 2 [DC m])
 refine BX (H:=Hint.none) (enM G) Tryz.func143 rfl (by kernel_rfl) (by kernel_rfl) (Nat.le_of_ble_eq_true (by kernel_rfl)) ?_
 show awp _ _ _ _ _ (EJ _ [.tmp 6,.tmp 7] _)
 have d0:decide ((K:Int) < 0)=false:=by simp
 simp -implicitDefEqProofs only [A8,AX,AZ,AU,A9,BH,BQ,BZ,EH,AL,AO,AJ,BA,AR,AC,AA,AY,AQ,BS,BD,BI,EX,BB,A7,EW,BL,BN,BV,BR,BO,AB,CO,BC,BP,List.map_cons,List.map_nil,List.append_nil,↓reduceIte,Nat.reduceEqDiff,Option.getD_some,Bool.not_false,enP,bxM,d0,ldM gm]
 refine (ZE G m i hi hg hf _).use ?_
 have d1:decide ((K:Int)≥((FM (szs m m.crs[i].pts):Nat):Int))=false:=by simp; omega
 simp -implicitDefEqProofs only [A8,AX,BK,BF,AZ,DL,AU,A9,BH,BQ,BZ,EH,AL,AO,AJ,BA,AR,AC,AA,AY,AQ,BI,BB,CF,DK,BL,BN,I9,BG,BU,C8,AB,F3,BC,BP,↓reduceIte,Nat.reduceEqDiff,Nat.zero_add,Option.getD_some,Bool.not_false,enP,P7,H7,GV,IU,d1,ABT gm,CW hi,CP KA hi,RP,List.length_map]
 clear d1
 rw [← hsl]
 generalize szs m m.crs[i].pts=ns at hs hsl hK hprod hget ⊢
 have hlt:h.length < (h ++ [ABlk.live 2 [DC m]]).length:=by simp
 have he0:ext h (h ++ [ABlk.live 2 [DC m]]):=(ext.rfl' h).app _
 generalize h ++ [ABlk.live 2 [DC m]]=H at hlt he0 gm ⊢
 simp -implicitDefEqProofs only [A8,BM,AX,AZ,AU,A9,AL,AO,AJ,BA,AR,AC,AA,AY,AQ,BD,BB,A7,BN,C8,BO,AB,J8,↓reduceIte,Option.getD_some,Bool.not_false,enP,GV,AST H ns.length (by omega)]
 rw [wrap_i64 (n:=(ns.length:Int) - 1) (by omega) (by omega)]
 refine CS (fun n F H' => ∃ j,n=j∧j≤ns.length∧F 1 = .int .i64 (i:Nat)∧F 3 = .ptr h.length 0 0∧F 8 = .own H.length 0 ns.length∧F 9 = .int .i64 ((j:Int) - 1)∧F 2 = .int .i64 ((tupF (ns.drop j) K).2:Nat)∧H'[h.length]? = some (.live 2 [DC m])∧ext h H'∧H'[H.length]? = some (.live 1 (((List.replicate ns.length 0).take j ++ (tupF (ns.drop j) K).1).map EU))) ns.length ⟨ns.length,rfl,Nat.le_refl _,by simp -implicitDefEqProofs only [AA,BC,BP,↓reduceIte,Nat.reduceEqDiff],by simp -implicitDefEqProofs only [AA,↓reduceIte,Nat.reduceEqDiff],by simp -implicitDefEqProofs only [AA,↓reduceIte,Nat.reduceEqDiff],by simp -implicitDefEqProofs only [AA,↓reduceIte],by simp -implicitDefEqProofs only [AA,BC,BP,↓reduceIte,Nat.reduceEqDiff]; rw [List.drop_eq_nil_of_le (Nat.le_refl _)]; rfl,C9 gm,he0.app _,?_⟩ ?_
 ·rw [List.drop_eq_nil_of_le (Nat.le_refl _),List.take_of_length_le (by simp)]
  simp only [tupF,List.append_nil]
  exact CQ _ _
 rintro n F H' ⟨j,rfl,hj,f1,f3,f8,f9,f2,gm',he,ho⟩
 simp -implicitDefEqProofs only [A8,AX,BF,AZ,AU,A9,AL,AO,AJ,BA,AR,AC,AA,AY,AQ,BD,BB,BN,AB,F3,↓reduceIte,Option.getD_some,Bool.not_false,enP,f9]
 cases n with
 | zero =>
   have:decide ((((0:Nat):Int) - 1)≥0)=false:=by decide
   simp -implicitDefEqProofs only [A8,AX,BJ,CU,AZ,DR,EB,EF,F6,DL,AU,A9,AL,AO,AJ,BA,AR,AC,AA,AY,AQ,BI,BB,A7,↓reduceIte,Nat.reduceEqDiff,Option.getD_some,Bool.not_false,this,f8]
   rw [List.take_zero,List.nil_append,List.drop_zero] at ho
   exact ⟨he,H.length,Nat.le_of_lt hlt,rfl,ho⟩
 | succ j =>
   have hd:decide ((((j+1:Nat):Int) - 1)≥0)=true:=by simp
   have hj':j < ns.length:=by omega
   have hjc:j < m.crs[i].pts.length:=by omega
   have hgk:ns[j]=(G5 m m.crs[i].pts[j]).length:=F4 (hget j hjc)
   have h1:=(hs _ (List.getElem_mem hj')).1
   have e1:(((j+1:Nat):Int) - 1)=(j:Int):=by omega
   have hst:=tup_step (K:=K) hj'
   have hle:=YG (ns.drop (j+1)) K
   generalize hr:(tupF (ns.drop (j+1)) K)=r at ho f2 hst hle
   have hrow : ∃ v,(((List.replicate ns.length 0).take (j+1) ++ r.1).map EU)[j]? = some [v]:=by
    refine ⟨.int .i64 0,?_⟩
    rw [List.getElem?_map,List.getElem?_append_left (by simp; omega),List.getElem?_take_of_lt (by omega),List.getElem?_replicate_of_lt hj']
    rfl
   have hset:=ZF (f:=EU) (pre:=List.replicate ns.length 0) (out:=r.1) (j:=j) (x:=r.2 % ns[j]) (by simpa using hj')
   simp -implicitDefEqProofs only [A8,BM,AX,BK,AZ,DI,AU,AL,AO,AJ,BA,AR,AC,AA,AY,BS,BB,BL,BV,BR,AB,List.map_cons,List.map_nil,List.append_nil,↓reduceIte,Nat.reduceEqDiff,Option.getD_some,Bool.not_false,enP,hd,f1,f3,f9,ldM gm']
   rw [e1]
   refine (U2 G m i hi hg j hjc _).use ?_
   rw [← hgk]
   simp -implicitDefEqProofs only [A8,AX,AZ,DU,DZ,AU,A9,AL,AO,AJ,BA,AR,AC,EQ,AA,AY,AQ,BD,BB,A7,EC,BN,BU,AB,DF,J8,↓reduceIte,Nat.reduceEqDiff,Nat.zero_add,Option.getD_some,Bool.not_false,enP,IL,Option.getD_none,f2,f8,f9,e1,Q7 ho hj',YK _ _ h1,AD7 _ _ h1 (show r.2≤9223372036854775807 by omega),AIN ho hrow,hset]
   refine ⟨j,by omega,j,rfl,by omega,f1,f3,trivial,?_,?_,EP gm' (Nat.ne_of_lt hlt),he.set (Nat.le_of_lt hlt) _,?_⟩
   ·rw [wrap_i64 (by omega) (by omega)]
   ·rw [hst]
   ·rw [hst]; exact EI ho
theorem AGT (G:Nat→AV) (m:Mo) (i:Nat) (hi:i < m.crs.length) (hg:CrGood m m.crs[i]) (l:List Int) (s:SM) (hin:KM (szs m m.crs[i].pts) l=true) (h:Hp):PCall (En G) 191 [.agg (DC m),.int .i64 (i:Int),.sl s 1 (l.map encI)] h (.tup [.int .i64 (ABV (szs m m.crs[i].pts) l 0),.bool true]):=by
 have hfour:=hg.four
 have hsl:=JE m m.crs[i].pts
 have hget:=TG m m.crs[i].pts
 have hlen:=NP hin
 refine ACalls.pure 2 (R:=fun v H=>v = .tup [.int .i64 (ABV (szs m m.crs[i].pts) l 0),.bool true]∧∃ x,H=h ++ x) ?_ (fun v h' ⟨e,x⟩=>⟨x,by subst e; rfl⟩)
 have gm:=CQ h (.live 2 [DC m])
 have hx : ∃ x,h ++ [ABlk.live 2 [DC m]]=h ++ x:=⟨_,rfl⟩
 refine BX (H:=Hint.none) (enM G) Tryz.func191 rfl (by kernel_rfl) (by kernel_rfl) (Nat.le_of_ble_eq_true (by kernel_rfl)) ?_
 show awp _ _ _ _ _ (EJ _ [.tmp 6,.tmp 7] _)
 simp -implicitDefEqProofs only [A8,AX,AZ,AU,A9,AL,AO,AJ,BA,AR,AC,AA,AY,AQ,BS,BD,BI,BB,A7,EW,BL,BV,BR,BO,AB,BC,BP,List.map_cons,List.map_nil,List.append_nil,↓reduceIte,Nat.reduceEqDiff,Option.getD_some,Bool.not_false,enP,bxM,ldM gm]
 refine (Y7 G m i hi hg _).use ?_
 have hne:((l.length:Int) != (m.crs[i].pts.length:Int))=false:=by rw [← hsl,hlen]; simp
 simp -implicitDefEqProofs only [A8,BM,AX,BK,BF,AZ,DL,AU,A9,BH,BQ,BZ,EH,AL,AO,AJ,BA,AR,AC,AA,AY,AQ,BD,BI,BB,A7,CF,DK,BL,BN,F9,BG,BU,C8,AB,ED,ER,BC,BP,↓reduceIte,Nat.reduceEqDiff,Nat.zero_add,Option.getD_some,Bool.not_true,Bool.not_false,enP,P7,H7,GV,IU,ABT gm,CW hi,CP KA hi,RP,List.length_map,hne]
 generalize h ++ [ABlk.live 2 [DC m]]=H at gm hx ⊢
 generalize szs m m.crs[i].pts=ns at hin hsl hlen hget ⊢
 refine CS (fun n F H' => ∃ k,n+k=l.length∧F 1 = .int .i64 (i:Nat)∧F 2 = .sl s 1 (l.map encI)∧F 3 = .ptr h.length 0 0∧(∃ z,F 8 = .int .i64 z∧ABV ns l 0=ABV (ns.drop k) (l.drop k) z)∧F 9 = .int .i64 (k:Nat)∧H'=H) l.length ⟨0,by simp,by simp -implicitDefEqProofs only [AA,BC,BP,↓reduceIte,Nat.reduceEqDiff],by simp -implicitDefEqProofs only [AA,BC,BP,↓reduceIte,Nat.reduceEqDiff],by simp -implicitDefEqProofs only [AA,↓reduceIte,Nat.reduceEqDiff],⟨0,rfl,rfl⟩,by simp -implicitDefEqProofs only [AA,↓reduceIte]; rfl,rfl⟩ ?_
 rintro n F H' ⟨k,hk,f1,f2,f3,⟨z,f8,hz⟩,f9,rfl⟩
 simp -implicitDefEqProofs only [A8,AX,BF,AZ,AU,A9,AL,AO,AJ,BA,AR,AC,AA,AY,BB,BN,C8,AB,CO,↓reduceIte,Nat.reduceEqDiff,Option.getD_some,Bool.not_false,enP,GV,f2,f9,List.length_map]
 refine CG (fun hc => ?_) (fun hc => ?_)
 ·have hk':k < l.length:=by simpa using hc
  have hkn:k < ns.length:=by omega
  have hkc:k < m.crs[i].pts.length:=by omega
  have hgk:ns[k]=(G5 m m.crs[i].pts[k]).length:=F4 (hget k hkc)
  obtain ⟨h0,h1⟩:=Z9 hin k hk' hkn
  have d0:decide (l[k] < 0)=false:=by simp; omega
  have d1:decide (l[k]≥(ns[k]:Int))=false:=by simp; omega
  rw [List.drop_eq_getElem_cons hk',List.drop_eq_getElem_cons hkn] at hz
  simp -implicitDefEqProofs only [A8,BM,AX,BK,AZ,AU,AL,AO,AJ,BA,AR,AC,AA,AY,BS,BB,BL,BV,BR,AB,List.map_cons,List.map_nil,List.append_nil,↓reduceIte,Nat.reduceEqDiff,Option.getD_some,Bool.not_false,enP,f1,f3,f9,ldM gm]
  refine (U2 G m i hi hg k hkc _).use ?_
  rw [← hgk]
  simp -implicitDefEqProofs only [A8,AX,BK,BF,AZ,DU,DZ,DL,AU,A9,BH,BQ,BZ,EH,AL,AO,AJ,BA,AR,AC,AA,AY,AQ,BD,BI,BB,A7,CF,DK,BL,BN,BU,AB,CR,TS,CO,F3,↓reduceIte,Nat.reduceEqDiff,Option.getD_some,Bool.not_false,enP,IL,f2,f8,f9,CW hk',CP ag3 hk',encI0,d0,d1,CB (show k < 9223372036854775807 by omega)]
  exact ⟨n - 1,by omega,k+1,by omega,f1,trivial,f3,⟨_,rfl,hz⟩,rfl,trivial⟩
 ·have hk' : ¬ k < l.length:=by simpa using hc
  rw [List.drop_eq_nil_of_le (show l.length≤k by omega),AGW] at hz
  simp -implicitDefEqProofs only [A8,AX,BJ,CU,AZ,DR,EB,EF,F6,AU,A9,AL,AO,AJ,BA,AR,AC,AA,AY,AQ,BI,BB,A7,↓reduceIte,Nat.reduceEqDiff,Option.getD_some,Bool.not_false,f8,hz]
  exact ⟨trivial,hx⟩
theorem AEY (G:Nat→AV) (m:Mo) (i:Nat) (hi:i < m.crs.length) (hg:CrGood m m.crs[i]) (l:List Int) (s:SM) (hin:KM (szs m m.crs[i].pts) l=true) (h:Hp):PCall (En G) 144 [.agg (DC m),.int .i64 (i:Int),.sl s 1 (l.map encI)] h (.bool (!OE m m.crs[i] l)):=by
 refine ACalls.pure0 rfl ?_
 have hh:=hg.here
 have hfour:=hg.four
 have hnum:=hg.num
 have hlen:l.length=m.crs[i].pts.length:=by have:=NP hin; rw [JE] at this; omega
 refine BX (H:=Hint.none) (enM G) Tryz.func144 rfl (by kernel_rfl) (by kernel_rfl) (Nat.le_of_ble_eq_true (by kernel_rfl)) ?_
 show awp _ _ _ _ _ (EJ _ [.tmp 6] _)
 have t:=Two.mk' h m m.crs[i]
 simp -implicitDefEqProofs only [A8,AX,AZ,AU,A9,AL,AO,AJ,BA,AR,AC,AA,AY,AQ,BS,BI,BB,A7,EW,BL,BV,BR,BO,AB,BC,BP,List.map_cons,List.map_nil,List.append_nil,↓reduceIte,Nat.reduceEqDiff,Option.getD_some,Bool.not_false,enP,bxM,ldM (CQ h (.live 2 [DC m]))]
 refine (AGT G m i hi hg l s hin _).use ?_
 simp -implicitDefEqProofs only [List.getElem?_cons_zero,List.getElem?_cons_succ,A8,BM,AX,BK,BF,AZ,DL,AU,A9,AL,AO,AJ,BA,AR,AC,EQ,AA,AY,AQ,BD,BB,A7,FL,BL,EC,F9,BG,BU,D8,FB,BO,AB,DF,ER,BC,BP,↓reduceIte,Nat.reduceEqDiff,Nat.zero_add,Option.getD_some,Bool.not_true,Bool.not_false,enP,P7,H7,Option.getD_none,ABT (CQ h (.live 2 [DC m])),CW hi,ES ABC WE JR hi,AT2,ARY _ _ [.str ⟨#[]⟩,.sl .nil 0 [],.sl .nil 0 []] rfl]
 generalize h ++ [ABlk.live 2 [DC m]] ++ [ABlk.live 3 [GH m.crs[i]]]=H at t ⊢
 generalize (h ++ [ABlk.live 2 [DC m]]).length=cb at t ⊢
 have hkb:=PQ m m.crs[i].pts l
 refine FO 0 (fun F H'=>F 2 = .sl s 1 (l.map encI)∧F 3 = .ptr h.length 0 0∧F 9 = .ptr cb 0 0∧H'=H∧(m.crs[i].excl.any fun x=>eqL x.l l)=false) (fun F H'=>F 6 = .bool true∧H'=H∧(m.crs[i].excl.any fun x=>eqL x.l l)=true) ?_ ?_ ?_
 ·refine CS (fun n F H' => ∃ k,n+k=m.crs[i].excl.length∧F 2 = .sl s 1 (l.map encI)∧F 3 = .ptr h.length 0 0∧F 9 = .ptr cb 0 0∧F 10 = .int .i64 (k:Nat)∧H'=H∧(m.crs[i].excl.any fun x=>eqL x.l l)=((m.crs[i].excl.drop k).any fun x=>eqL x.l l)) m.crs[i].excl.length ⟨0,by simp,by simp -implicitDefEqProofs only [AA,BC,BP,↓reduceIte,Nat.reduceEqDiff],by simp -implicitDefEqProofs only [AA,↓reduceIte,Nat.reduceEqDiff],by simp -implicitDefEqProofs only [AA,↓reduceIte,Nat.reduceEqDiff],by simp -implicitDefEqProofs only [AA,↓reduceIte]; rfl,rfl,rfl⟩ ?_
  rintro n F H' ⟨k,hk,f2,f3,f9,f10,rfl,ha⟩
  simp -implicitDefEqProofs only [A8,AX,BF,AZ,AU,A9,AL,AO,AJ,BA,AR,AC,AA,AY,BB,BL,BN,BG,C8,AB,CO,↓reduceIte,Nat.reduceEqDiff,Nat.zero_add,Option.getD_some,Bool.not_false,enP,WM,NU,f9,f10,t.l2,List.length_map]
  refine CG (fun hc => ?_) (fun hc => ?_)
  ·have hk':k < m.crs[i].excl.length:=by simpa using hc
   have hs:=KJ (fun x:Is=>eqL x.l l) m.crs[i].excl k hk'
   simp -implicitDefEqProofs only [A8,BM,AX,BK,AZ,AU,AL,AO,AJ,BA,AR,AC,AA,AY,BS,BB,BL,BG,BU,BV,BR,AB,List.map_cons,List.map_nil,List.append_nil,↓reduceIte,Nat.reduceEqDiff,Nat.zero_add,Option.getD_some,Bool.not_false,enP,PK,NU,f2,f9,f10,t.l2,CW hk',CP KA hk',LH]
   refine (AIT G m.crs[i].excl[k].l l _ s _ (by omega)).use ?_
   simp -implicitDefEqProofs only [BF,AZ,A9,AC,AA,AY,↓reduceIte]
   cases he:eqL m.crs[i].excl[k].l l
   ·simp -implicitDefEqProofs only [AX,BK,AZ,DU,DZ,DL,AU,A9,AL,AO,AJ,BA,AR,AC,AA,AY,AQ,BD,BB,A7,BN,AB,CR,↓reduceIte,Nat.reduceEqDiff,Option.getD_some,Bool.not_false,enP,f10,CB (show k < 9223372036854775807 by omega)]
    exact ⟨n - 1,by omega,k+1,by omega,f2,f3,f9,rfl,trivial,by rw [ha,hs,he]; rfl⟩
   ·simp -implicitDefEqProofs only [A8,AX,BJ,AZ,CJ,D6,KC,EZ,DI,AU,A9,AL,AO,AJ,BA,AR,AC,AA,AQ,BI,A7,↓reduceIte,Option.getD_some,Bool.not_false]
    exact ⟨trivial,trivial,by rw [ha,hs,he]; rfl⟩
  ·have hk' : ¬ k < m.crs[i].excl.length:=by simpa using hc
   simp -implicitDefEqProofs only [CU,DR,II,EF,AA,↓reduceIte,Nat.reduceEqDiff]
   exact ⟨f2,f3,f9,trivial,by rw [ha,List.drop_eq_nil_of_le (by omega)]; rfl⟩
 ·rintro F H' ⟨f2,f3,f9,rfl,ha⟩
  have hhb:OE m m.crs[i] l=KQ m m.crs[i].pts l:=by unfold OE; rw [ha]; simp
  rw [hhb]
  simp -implicitDefEqProofs only [A8,BM,AX,AZ,EB,AU,A9,AL,AO,AJ,BA,AR,AC,AQ,BD,A7,↓reduceIte,Option.getD_some,Bool.not_false]
  refine CS (fun n F H => ∃ k,n+k=l.length∧F 2 = .sl s 1 (l.map encI)∧F 3 = .ptr h.length 0 0∧F 9 = .ptr cb 0 0∧F 11 = .int .i64 (k:Nat)∧H=H'∧KQ m m.crs[i].pts l=KQ m (m.crs[i].pts.drop k) (l.drop k)) l.length ⟨0,by simp,by simp -implicitDefEqProofs only [AA,↓reduceIte,Nat.reduceEqDiff,f2],by simp -implicitDefEqProofs only [AA,↓reduceIte,Nat.reduceEqDiff,f3],by simp -implicitDefEqProofs only [AA,↓reduceIte,Nat.reduceEqDiff,f9],by simp -implicitDefEqProofs only [AA,↓reduceIte]; rfl,rfl,rfl⟩ ?_
  clear f2 f3 f9
  rintro n F H' ⟨k,hk,f2,f3,f9,f11,rfl,hk0⟩
  simp -implicitDefEqProofs only [A8,AX,BF,AZ,AU,A9,AL,AO,AJ,BA,AR,AC,AA,AY,BB,BN,C8,AB,CO,↓reduceIte,Nat.reduceEqDiff,Option.getD_some,Bool.not_false,enP,GV,f2,f11,List.length_map]
  refine CG (fun hc => ?_) (fun hc => ?_)
  ·have hk':k < l.length:=by simpa using hc
   have hkc:k < m.crs[i].pts.length:=by omega
   rw [hkb k hkc hk'] at hk0
   obtain ⟨h0,h1⟩:=VK hin k hk' hkc
   obtain ⟨s2,ls⟩:=hh.ld hkc H'
   have hlt:l[k].toNat < (G5 m m.crs[i].pts[k]).length:=by omega
   simp -implicitDefEqProofs only [A8,BM,BK,AZ]
   refine EG (by kernel_rfl) ?_
   simp -implicitDefEqProofs only [FJ,DT,CZ,EO,DV,ET,EN,GK,DW,DN,BF,AZ,AL,AA,AY,AQ,BD,BL,BN,BG,BU,AB,ED,↓reduceIte,Nat.reduceEqDiff,Nat.reduceAdd,Nat.add_zero,Nat.zero_add,Option.getD_some,enP,MV,GZ,VH,HZ,IL,IU,KZ,bne,f2,f3,f9,f11,t.lm,t.l1,CW hkc,CP ag3 hkc,CW hk',CP ag3 hk',encI0,hh.ix hkc,ls,AE6 h0 h1,CP ag3 hlt,PT,VZ h0 h1]
   cases hkd:(SE m m.crs[i].pts[k] l[k] == 0)
   ·simp -implicitDefEqProofs only [A8,AX,BJ,AZ,CJ,D6,EZ,CK,DI,AU,A9,AL,AO,AJ,BA,AR,AC,AA,AQ,BI,A7,↓reduceIte,Option.getD_some,Bool.not_false]
    exact ⟨by rw [hk0,hkd]; rfl,t.hx⟩
   ·simp -implicitDefEqProofs only [AX,BK,AZ,DU,DZ,DL,AU,A9,AL,AO,AJ,BA,AR,AC,AA,AY,AQ,BD,BB,A7,BN,AB,CR,↓reduceIte,Nat.reduceEqDiff,Option.getD_some,Bool.not_true,Bool.not_false,enP,f11,CB (show k < 9223372036854775807 by omega)]
    exact ⟨n - 1,by omega,k+1,by omega,f2,f3,f9,rfl,trivial,by rw [hk0,hkd]; rfl⟩
  ·have hk' : ¬ k < l.length:=by simpa using hc
   simp -implicitDefEqProofs only [A8,AX,BJ,CU,AZ,DR,EB,EF,CK,AU,A9,AL,AO,AJ,BA,AR,AC,AA,AQ,BI,A7,↓reduceIte,Option.getD_some,Bool.not_false]
   exact ⟨by rw [hk0,List.drop_eq_nil_of_le (show l.length≤k by omega),Q6]; rfl,t.hx⟩
 ·rintro F H' ⟨f6,rfl,ha⟩
  simp -implicitDefEqProofs only [CJ,D6,CK,f6]
  exact ⟨by unfold OE; rw [ha]; simp,t.hx⟩
end Go.Proofs.YtocilianjfhifaaGreatDoor.Cov
/- The goals of a model: the program; no condition but the bounds on lengths. -/
namespace Go.Proofs.YtocilianjfhifaaGreatDoor.Cov
open Go Go.Proofs Go.Proofs.YtocilianjfhifaaGreatDoor.Sm Go.Proofs.YtocilianjfhifaaGreatDoor.Bins Go.RowKit

/-- a goal -/
structure Gl where
 cross:Bool
 idx:Nat
 bm:SM
 bins:List Int
 at_:Nat
def G7 (g:Gl):List AV := [.bool g.cross,.int .i64 (g.idx:Int),.sl g.bm 1 (g.bins.map encI),.int .i64 (g.at_:Int)]
def I8 (g:Gl):List AV := [.bool g.cross,.int .i64 (g.idx:Int),.sl g.bm 1 (g.bins.map encI)]
theorem MQ (g:Gl):(G7 g).length=4:=rfl
theorem VT (g:Gl):(I8 g).length=3:=rfl
theorem AXT:Frz G7:=fun _ _ _ _=>⟨rfl,rfl⟩
theorem AZG:Frz I8:=fun _ _ _ _=>⟨rfl,rfl⟩
def mkP (i k:Nat):Gl:=⟨false,i,.full,[(k:Int)],k⟩
def mkC (m:Mo) (i k:Nat) (c:Cr):Gl:=⟨true,i,.any,L9 (szs m c.pts) k,k⟩
def gPk (i:Nat) (p:Pt):Nat→List Gl
 | 0 => []
 | k+1=>gPk i p k ++ (if (kindOf p k == 0)=true then [mkP i k] else [])
def gP (m:Mo):Nat→List Gl
 | 0 => []
 | i+1=>gP m i ++ (match m.pts[i]? with | some p=>gPk i p p.bins.length | none => [])
def gCk (m:Mo) (i:Nat) (c:Cr):Nat→List Gl
 | 0 => []
 | k+1=>gCk m i c k ++ (if OE m c (L9 (szs m c.pts) k)=true then [mkC m i k c] else [])
def gC (m:Mo):Nat→List Gl
 | 0=>gP m m.pts.length
 | i+1=>gC m i ++ (match m.crs[i]? with | some c=>gCk m i c (FM (szs m c.pts)) | none => [])
def goals (m:Mo):List Gl:=gC m m.crs.length
theorem YS (i:Nat) (p:Pt) : ∀ k,(gPk i p k).length≤k
 | 0=>Nat.le_refl _
 | k+1=>by
   have:=YS i p k
   simp only [gPk,List.length_append]
   split <;> simp <;> omega
theorem AEK {m:Mo} (hf:Full m) : ∀ i,(gP m i).length≤64 * i
 | 0=>Nat.le_refl _
 | i+1=>by
   have h1:=AEK hf i
   simp only [gP,List.length_append]
   split
   ·rename_i p hp
    have h2:=YS i p p.bins.length
    have h3:=(hf p (List.mem_of_getElem? hp)).2
    omega
   ·simp; omega
theorem YT (m:Mo) (i:Nat) (c:Cr) : ∀ k,(gCk m i c k).length≤k
 | 0=>Nat.le_refl _
 | k+1=>by
   have:=YT m i c k
   simp only [gCk,List.length_append]
   split <;> simp <;> omega
theorem AEL {m:Mo} (hg:Good m) : ∀ i,(gC m i).length≤64 * m.pts.length+256 * i
 | 0=>AEK hg.full _
 | i+1=>by
   have h1:=AEL hg i
   simp only [gC,List.length_append]
   split
   ·rename_i c hc
    have h2:=YT m i c (FM (szs m c.pts))
    have h3:=(hg.crs c (List.mem_of_getElem? hc)).prod
    omega
   ·simp; omega
theorem J4 {m:Mo} (hg:Good m):(goals m).length≤8192:=by
 have h1:=AEL hg m.crs.length
 have h2:=hg.num
 unfold goals; omega
theorem AU9 (i:Int) (xs:List (List AV)):JX Tryz.prog 106 [(1,.int .i64 i),(2,.sl .full 1 xs)]=some (.agg [.bool false,.int .i64 i,.sl .full 1 xs]):=by kernel_rfl
theorem AVA (i:Int) (xs:List (List AV)):JX Tryz.prog 106 [(0,.bool true),(1,.int .i64 i),(2,.sl .any 1 xs)]=some (.agg [.bool true,.int .i64 i,.sl .any 1 xs]):=by kernel_rfl
theorem AYE (i k:Int) (xs:List (List AV)):JX Tryz.prog 108 [(0,.agg [.bool false,.int .i64 i,.sl .full 1 xs]),(1,.int .i64 k)]=some (.agg [.bool false,.int .i64 i,.sl .full 1 xs,.int .i64 k]):=by kernel_rfl
theorem AYF (i k:Int) (xs:List (List AV)):JX Tryz.prog 108 [(0,.agg [.bool true,.int .i64 i,.sl .any 1 xs]),(1,.int .i64 k)]=some (.agg [.bool true,.int .i64 i,.sl .any 1 xs,.int .i64 k]):=by kernel_rfl
theorem AX7 (h:Hp) (g:Gl) (hf:(G7 g).all AV.frozen=true):FC Tryz.prog false h 101 1 [(0,.agg (G7 g))]=some (.sl .full 4 [G7 g],h):=by
 have h1:Tryz.prog.underlying 101=some (.slice 108):=AOS
 unfold FC
 simp only [h1,XK,AOL]
 have h2:R7 4 0 [(0,AV.agg (G7 g))]=some [G7 g]:=rfl
 simp [h2,hf]
end Go.Proofs.YtocilianjfhifaaGreatDoor.Cov
/- The goals of a model: merge.goals; no condition but the bounds on lengths. -/
set_option linter.unusedSimpArgs false
set_option maxRecDepth 8000
namespace Go.Proofs.YtocilianjfhifaaGreatDoor.Cov
open Go Go.Proofs Go.Proofs.YtocilianjfhifaaGreatDoor.Sm Go.Proofs.YtocilianjfhifaaGreatDoor.Bins Go.RowKit

theorem AAD (G:Nat→AV) (m:Mo) (hm:MoOk m) (hg:Good m) (h:Hp):PCall (En G) 80 [.agg (DC m)] h (.sl (nm (goals m)) 4 ((goals m).map G7)):=by
 refine LA AXT ?_
 have hm1:=hm.np
 have hm2:=hm.nc
 have hnum:=hg.num
 refine BX (H:=Hint.none) (enM G) Tryz.func80 rfl (by kernel_rfl) (by kernel_rfl) (Nat.le_of_ble_eq_true (by kernel_rfl)) ?_
 show awp _ _ _ _ _ (EJ _ [.tmp 2] _)
 simp -implicitDefEqProofs only [A8,BM,AX,AZ,AU,A9,AL,AO,AJ,BA,AR,AC,AA,AY,AQ,BD,EX,BB,A7,EW,BL,BG,C8,BO,AB,BC,↓reduceIte,Nat.reduceEqDiff,Nat.add_zero,Option.getD_some,Bool.not_false,enP,OZ,GZ,bxM,AEB (CQ h (.live 2 [DC m])),List.length_map]
 refine FO 0 (fun F H=>F 1 = .ptr h.length 0 0∧H[h.length]? = some (.live 2 [DC m])∧ext h H∧(∀ b,isB (F 3) b→h.length < b)∧outG 4 G7 h (gC m 0) (F 3) H) (fun _ _=>False) ?_ ?_ (fun _ _ hh=>hh.elim)
 ·refine CS (fun n F H => ∃ i,n+i=m.pts.length∧F 1 = .ptr h.length 0 0∧F 13 = .sl m.pm 6 (m.pts.map G9)∧F 14 = .int .i64 m.pts.length∧F 15 = .int .i64 (i:Nat)∧H[h.length]? = some (.live 2 [DC m])∧ext h H∧(∀ b,isB (F 3) b→h.length < b)∧outG 4 G7 h (gP m i) (F 3) H) m.pts.length ⟨0,by simp,by simp -implicitDefEqProofs only [AA,↓reduceIte,Nat.reduceEqDiff],by simp -implicitDefEqProofs only [AA,↓reduceIte,Nat.reduceEqDiff],by simp -implicitDefEqProofs only [AA,↓reduceIte,Nat.reduceEqDiff],by simp -implicitDefEqProofs only [AA,↓reduceIte]; rfl,CQ _ _,(ext.rfl' h).app _,fun b hb=>hb.elim,outG.nil _ _ _ _⟩ ?_
  rintro n F H ⟨i,hi,f1,f13,f14,f15,gm,he,hlt,ho⟩
  simp -implicitDefEqProofs only [A8,AX,BF,AZ,AU,A9,AL,AO,AJ,BA,AR,AC,AA,AY,BN,AB,CO,↓reduceIte,Option.getD_some,Bool.not_false,enP,f14,f15]
  refine CG (fun hc => ?_) (fun hc => ?_)
  ·have hi':i < m.pts.length:=by simpa using hc
   have hgp:gP m (i+1)=gP m i ++ gPk i m.pts[i] m.pts[i].bins.length:=by
    simp only [gP]; rw [List.getElem?_eq_getElem hi']
   have h64:=(hg.full _ (List.getElem_mem hi')).2
   have hpl:=AEK hg.full i
   simp -implicitDefEqProofs only [A8,BM,AX,BK,AZ,AU,A9,AL,AO,AJ,BA,AR,AC,EQ,AA,AY,AQ,BD,BB,A7,FL,BL,EC,BG,BU,C8,BO,AB,DF,↓reduceIte,Nat.reduceEqDiff,Nat.zero_add,Option.getD_some,Bool.not_false,enP,MV,PI,HZ,Option.getD_none,f13,f15,CW hi',ES AE9 X3 JJ hi',AT3,ARZ _ _ [.str ⟨#[]⟩,.int .i64 0,.int .i64 0,.str ⟨#[]⟩,.sl .nil 0 [],.sl .nil 0 []] rfl,CX NW,K3,List.length_map]
   refine FO 2 (fun F' H'=>F' 1 = .ptr h.length 0 0∧F' 13 = .sl m.pm 6 (m.pts.map G9)∧F' 14 = .int .i64 m.pts.length∧F' 15 = .int .i64 (i:Nat)∧H'[h.length]? = some (.live 2 [DC m])∧ext h H'∧(∀ b,isB (F' 3) b→h.length < b)∧outG 4 G7 h (gP m (i+1)) (F' 3) H') (fun _ _=>False) ?_ ?_ (fun _ _ hh=>hh.elim)
   ·refine CS (fun n F' H' => ∃ k,n+k=m.pts[i].bins.length∧F' 1 = .ptr h.length 0 0∧F' 13 = .sl m.pm 6 (m.pts.map G9)∧F' 14 = .int .i64 m.pts.length∧F' 15 = .int .i64 (i:Nat)∧F' 4 = .int .i64 (i:Nat)∧F' 21 = .sl m.pts[i].bm 4 (m.pts[i].bins.map JK)∧F' 22 = .int .i64 m.pts[i].bins.length∧F' 23 = .int .i64 (k:Nat)∧H'[h.length]? = some (.live 2 [DC m])∧ext h H'∧(∀ b,isB (F' 3) b→h.length < b)∧outG 4 G7 h (gP m i ++ gPk i m.pts[i] k) (F' 3) H') m.pts[i].bins.length ⟨0,by simp,by simp -implicitDefEqProofs only [AA,↓reduceIte,Nat.reduceEqDiff,f1],by simp -implicitDefEqProofs only [AA,↓reduceIte,Nat.reduceEqDiff,f13],by simp -implicitDefEqProofs only [AA,↓reduceIte,Nat.reduceEqDiff,f14],by simp -implicitDefEqProofs only [AA,↓reduceIte,Nat.reduceEqDiff,f15],by simp -implicitDefEqProofs only [AA,↓reduceIte,Nat.reduceEqDiff],by simp -implicitDefEqProofs only [AA,↓reduceIte,Nat.reduceEqDiff],by simp -implicitDefEqProofs only [AA,↓reduceIte,Nat.reduceEqDiff],by simp -implicitDefEqProofs only [AA,↓reduceIte]; rfl,C9 gm,he.app _,hlt,by rw [show gPk i m.pts[i] 0 = [] from rfl,List.append_nil]; exact ho.app _⟩ ?_
    clear f1 f13 f14 f15 gm he hlt ho
    rintro n' F H ⟨k,hk,f1,f13,f14,f15,f4,f21,f22,f23,gm,he,hlt,ho⟩
    simp -implicitDefEqProofs only [A8,AX,BF,AZ,AU,A9,AL,AO,AJ,BA,AR,AC,AA,AY,BN,AB,CO,↓reduceIte,Option.getD_some,Bool.not_false,enP,f22,f23]
    refine CG (fun hc => ?_) (fun hc => ?_)
    ·have hk':k < m.pts[i].bins.length:=by simpa using hc
     have hkd:kindOf m.pts[i] k=(m.pts[i].bins[k]).kind:=by unfold kindOf; rw [List.getElem?_eq_getElem hk']
     have hkl:=YS i m.pts[i] k
     have ho1:=ho.app [.live 4 [JK m.pts[i].bins[k]]]
     have he1:ext h (H ++ [.live 4 [JK m.pts[i].bins[k]]]):=he.app _
     simp -implicitDefEqProofs only [A8,BM,AX,BK,BF,AZ,AU,A9,AL,AO,AJ,BA,AR,AC,EQ,AA,AY,AQ,BD,BB,A7,FL,BL,EC,BN,BG,BU,BO,AB,DF,D9,↓reduceIte,Nat.reduceEqDiff,Nat.zero_add,Option.getD_some,Bool.not_false,enP,VH,KZ,Option.getD_none,f21,f23,CW hk',ES XX R4 K7 hk',AYL,AXE _ _ [.str ⟨#[]⟩,.int .i64 0,.sl .nil 0 [],.sl .nil 0 []] rfl,CX ag3,PT]
     cases hz:(m.pts[i].bins[k].kind == 0)
     ·have hgk:gPk i m.pts[i] (k+1)=gPk i m.pts[i] k:=by
       simp only [gPk]; rw [hkd,hz]; simp
      simp -implicitDefEqProofs only [AX,BK,AZ,DU,DZ,DL,AU,A9,AL,AO,AJ,BA,AR,AC,AA,AY,AQ,BD,BB,BN,AB,CR,↓reduceIte,Nat.reduceEqDiff,Option.getD_some,Bool.not_false,enP,f23,CB (show k < 9223372036854775807 by omega)]
      refine ⟨n' - 1,by omega,k+1,by omega,f1,f13,f14,f15,f4,f21,f22,rfl,C9 gm,he1,hlt,?_⟩
      rw [hgk]; exact ho1
     ·have hgk:gP m i ++ gPk i m.pts[i] (k+1)=(gP m i ++ gPk i m.pts[i] k) ++ [mkP i k]:=by
       simp only [gPk]; rw [hkd,hz,if_pos rfl,List.append_assoc]
      obtain ⟨v',H',ha,ho',hkeep,he',hle,hb'⟩:=ho1.append AOS XK AOL AU6 (by omega) (by rw [List.length_append]; omega) he1 (mkP i k)
      simp -implicitDefEqProofs only [E8,FI,AX,DI,AU,AL,AO,AJ,BA,AR,AC,AA,AY,BB,IR,EA,BO,AB,↓reduceIte,Nat.reduceEqDiff,Option.getD_some,Bool.not_false,enP,f4,U1,AU9,AYE]
      rw [show [AV.bool false,AV.int .i64 ((i:Nat):Int),AV.sl .full 1 [[.int .i64 ((k:Nat):Int)]],AV.int .i64 ((k:Nat):Int)]=G7 (mkP i k) from rfl]
      simp -implicitDefEqProofs only [AU,AL,AO,AJ,BA,AR,AC,AA,AY,FT,BO,↓reduceIte,Nat.reduceEqDiff,Option.getD_some,Bool.not_false,enP,AX7 _ _ (show (G7 (mkP i k)).all AV.frozen=true from rfl)]
      refine FK (v:=v') (h:=H') ha ?_
      simp -implicitDefEqProofs only [AX,AZ,DU,DZ,AU,A9,AL,AO,AJ,BA,AR,AC,AA,AY,AQ,BD,BB,A7,BN,AB,CR,↓reduceIte,Nat.reduceEqDiff,Option.getD_some,Bool.not_false,enP,f23,CB (show k < 9223372036854775807 by omega)]
      refine ⟨n' - 1,by omega,k+1,by omega,f1,f13,f14,f15,f4,f21,f22,rfl,hkeep _ _ (C9 gm) (fun e=>by have:=hlt _ e; omega),he',fun b hbb => ?_,?_⟩
      ·have h1:=hb' b hbb; have h2:=CE gm; rw [h1]; simp; omega
      ·rw [hgk]; exact ho'
    ·have hk' : ¬ k < m.pts[i].bins.length:=by simpa using hc
     have hke:k=m.pts[i].bins.length:=by omega
     simp -implicitDefEqProofs only [CU,DR,II,EF,AA,↓reduceIte,Nat.reduceEqDiff]
     refine ⟨f1,f13,f14,f15,gm,he,hlt,?_⟩
     rw [hgp,← hke]; exact ho
   ·rintro F' H' ⟨g1,g13,g14,g15,gm',he',hlt',ho'⟩
    simp -implicitDefEqProofs only [AX,AZ,DU,EB,DZ,AU,A9,AL,AO,AJ,BA,AR,AC,AA,AY,AQ,BD,BB,BN,AB,CR,↓reduceIte,Nat.reduceEqDiff,Option.getD_some,Bool.not_false,enP,g15,CB (show i < 9223372036854775807 by omega)]
    exact ⟨n - 1,by omega,i+1,by omega,g1,g13,g14,rfl,gm',he',hlt',ho'⟩
  ·have hi' : ¬ i < m.pts.length:=by simpa using hc
   have hie:i=m.pts.length:=by omega
   subst hie
   simp -implicitDefEqProofs only [CU,DR,II,EF,AA,↓reduceIte,Nat.reduceEqDiff]
   exact ⟨f1,gm,he,hlt,ho⟩
 ·rintro F H ⟨f1,gm,he,hlt,ho⟩
  simp -implicitDefEqProofs only [A8,BM,AX,AZ,EB,AU,A9,AL,AO,AJ,BA,AR,AC,AA,AY,AQ,BD,BB,BL,BG,C8,AB,↓reduceIte,Nat.zero_add,Option.getD_some,Bool.not_false,enP,Q5,H7,f1,ABT gm,List.length_map]
  refine CS (fun n F H => ∃ i,n+i=m.crs.length∧F 1 = .ptr h.length 0 0∧F 44 = .int .i64 m.crs.length∧F 45 = .int .i64 (i:Nat)∧H[h.length]? = some (.live 2 [DC m])∧ext h H∧(∀ b,isB (F 3) b→h.length < b)∧outG 4 G7 h (gC m i) (F 3) H) m.crs.length ⟨0,by simp,by simp -implicitDefEqProofs only [AA,↓reduceIte,Nat.reduceEqDiff,f1],by simp -implicitDefEqProofs only [AA,↓reduceIte,Nat.reduceEqDiff],by simp -implicitDefEqProofs only [AA,↓reduceIte]; rfl,gm,he,hlt,ho⟩ ?_
  clear f1 gm he hlt ho
  rintro n F H ⟨i,hi,f1,f44,f45,gm,he,hlt,ho⟩
  simp -implicitDefEqProofs only [A8,AX,BF,AZ,AU,A9,AL,AO,AJ,BA,AR,AC,AA,AY,BN,AB,CO,↓reduceIte,Option.getD_some,Bool.not_false,enP,f44,f45]
  refine CG (fun hc => ?_) (fun hc => ?_)
  ·have hi':i < m.crs.length:=by simpa using hc
   have hcg:=hg.crs _ (List.getElem_mem hi')
   have hfs:=hg.full.szs hcg.here
   have hgc:gC m (i+1)=gC m i ++ gCk m i m.crs[i] (FM (szs m m.crs[i].pts)):=by
    simp only [gC]; rw [List.getElem?_eq_getElem hi']
   have hpr:=hcg.prod
   have hcl:=AEL hg i
   simp -implicitDefEqProofs only [A8,BM,AX,BK,AZ,AU,A9,AL,AO,AJ,BA,AR,AC,AA,AY,BS,BB,A7,BL,BV,BR,AB,List.map_cons,List.map_nil,List.append_nil,↓reduceIte,Nat.reduceEqDiff,Option.getD_some,Bool.not_false,enP,f1,f45,ldM gm]
   refine (XL G m i hi' hcg hg.full _).use ?_
   simp -implicitDefEqProofs only [BM,AZ,AU,A9,AL,AO,AJ,BA,AR,AC,AQ,BD,BB,Option.getD_some,Bool.not_false]
   refine FO 6 (fun F' H'=>F' 1 = .ptr h.length 0 0∧F' 44 = .int .i64 m.crs.length∧F' 45 = .int .i64 (i:Nat)∧H'[h.length]? = some (.live 2 [DC m])∧ext h H'∧(∀ b,isB (F' 3) b→h.length < b)∧outG 4 G7 h (gC m (i+1)) (F' 3) H') (fun _ _=>False) ?_ ?_ (fun _ _ hh=>hh.elim)
   ·refine CS (fun n F' H' => ∃ k,n+k=FM (szs m m.crs[i].pts)∧F' 1 = .ptr h.length 0 0∧F' 44 = .int .i64 m.crs.length∧F' 45 = .int .i64 (i:Nat)∧F' 8 = .int .i64 (i:Nat)∧F' 50 = .int .i64 (FM (szs m m.crs[i].pts):Nat)∧F' 51 = .int .i64 (k:Nat)∧H'[h.length]? = some (.live 2 [DC m])∧ext h H'∧(∀ b,isB (F' 3) b→h.length < b)∧outG 4 G7 h (gC m i ++ gCk m i m.crs[i] k) (F' 3) H') (FM (szs m m.crs[i].pts)) ⟨0,by simp,by simp -implicitDefEqProofs only [AA,↓reduceIte,Nat.reduceEqDiff,f1],by simp -implicitDefEqProofs only [AA,↓reduceIte,Nat.reduceEqDiff,f44],by simp -implicitDefEqProofs only [AA,↓reduceIte,Nat.reduceEqDiff,f45],by simp -implicitDefEqProofs only [AA,↓reduceIte,Nat.reduceEqDiff],by simp -implicitDefEqProofs only [AA,↓reduceIte,Nat.reduceEqDiff],by simp -implicitDefEqProofs only [AA,↓reduceIte]; rfl,gm,he,hlt,by rw [show gCk m i m.crs[i] 0 = [] from rfl,List.append_nil]; exact ho⟩ ?_
    clear f1 f44 f45 gm he hlt ho
    rintro n' F H ⟨k,hk,f1,f44,f45,f8,f50,f51,gm,he,hlt,ho⟩
    simp -implicitDefEqProofs only [A8,AX,BF,AZ,AU,A9,AL,AO,AJ,BA,AR,AC,AA,AY,BN,AB,CO,↓reduceIte,Option.getD_some,Bool.not_false,enP,f50,f51]
    refine CG (fun hc => ?_) (fun hc => ?_)
    ·have hk':k < FM (szs m m.crs[i].pts):=by simpa using hc
     have hkl:=YT m i m.crs[i] k
     simp -implicitDefEqProofs only [A8,BM,AX,BK,AZ,AU,A9,AL,AO,AJ,BA,AR,AC,AA,AY,BS,BB,A7,BL,BV,BR,AB,List.map_cons,List.map_nil,List.append_nil,↓reduceIte,Nat.reduceEqDiff,Option.getD_some,Bool.not_false,enP,f1,f8,f51,ldM gm]
     refine (ADZ G m i hi' hcg hg.full k hk' _).use ?_
     simp -implicitDefEqProofs only [List.getElem?_cons_zero,List.getElem?_cons_succ,A8,AX,AZ,AU,A9,BH,BQ,BZ,FZ,AL,AO,AJ,BA,AR,AC,AA,AY,BS,BB,A7,BL,D8,FB,BV,BR,AB,List.map_cons,List.map_nil,List.append_nil,↓reduceIte,Nat.reduceEqDiff,Option.getD_some,Bool.not_false,enP,f1,f8,ldM gm]
     refine (AB0 G m i hi' hcg _ _ (R3 _ _ fun n hn=>(hfs n hn).1) _).use ?_
     simp -implicitDefEqProofs only [BF,AZ,AU,A9,BH,BQ,BZ,FZ,AL,AO,AJ,BA,AR,AC,AA,AY,AQ,BI,CF,DJ,F9,AB,ER,↓reduceIte,Nat.reduceEqDiff,Option.getD_some,Bool.not_false]
     cases hz:OE m m.crs[i] (L9 (szs m m.crs[i].pts) k)
     ·have hgk:gCk m i m.crs[i] (k+1)=gCk m i m.crs[i] k:=by
       simp only [gCk]; rw [hz]; simp
      simp -implicitDefEqProofs only [AX,BK,AZ,DU,DZ,DL,AU,A9,AL,AO,AJ,BA,AR,AC,AA,AY,AQ,BD,BB,BN,AB,CR,↓reduceIte,Nat.reduceEqDiff,Option.getD_some,Bool.not_true,Bool.not_false,enP,f51,CB (show k < 9223372036854775807 by omega)]
      refine ⟨n' - 1,by omega,k+1,by omega,f1,f44,f45,f8,f50,rfl,gm,he,hlt,?_⟩
      rw [hgk]; exact ho
     ·have hgk:gC m i ++ gCk m i m.crs[i] (k+1)=(gC m i ++ gCk m i m.crs[i] k) ++ [mkC m i k m.crs[i]]:=by
       simp only [gCk]; rw [hz,if_pos rfl,List.append_assoc]
      obtain ⟨v',H',ha,ho',hkeep,he',hle,hb'⟩:=ho.append AOS XK AOL AU6 (by omega) (by rw [List.length_append]; omega) he (mkC m i k m.crs[i])
      simp -implicitDefEqProofs only [E8,FI,AX,DI,AU,AL,AO,AJ,BA,AR,AC,AA,AY,AQ,BI,BB,IR,EA,AB,↓reduceIte,Nat.reduceEqDiff,Option.getD_some,Bool.not_true,Bool.not_false,enP,f8,AVA,AYF]
      rw [show [AV.bool true,AV.int .i64 ((i:Nat):Int),AV.sl .any 1 ((L9 (szs m m.crs[i].pts) k).map encI),AV.int .i64 ((k:Nat):Int)]=G7 (mkC m i k m.crs[i]) from rfl]
      simp -implicitDefEqProofs only [AU,AL,AO,AJ,BA,AR,AC,AA,AY,FT,BO,↓reduceIte,Nat.reduceEqDiff,Option.getD_some,Bool.not_false,enP,AX7 _ _ (show (G7 (mkC m i k m.crs[i])).all AV.frozen=true from rfl)]
      refine FK (v:=v') (h:=H') ha ?_
      simp -implicitDefEqProofs only [AX,AZ,DU,DZ,AU,A9,AL,AO,AJ,BA,AR,AC,AA,AY,AQ,BD,BB,A7,BN,AB,CR,↓reduceIte,Nat.reduceEqDiff,Option.getD_some,Bool.not_false,enP,f51,CB (show k < 9223372036854775807 by omega)]
      refine ⟨n' - 1,by omega,k+1,by omega,f1,f44,f45,f8,f50,rfl,hkeep _ _ gm (fun e=>by have:=hlt _ e; omega),he',fun b hbb => ?_,?_⟩
      ·have h1:=hb' b hbb; have h2:=CE gm; omega
      ·rw [hgk]; exact ho'
    ·have hk' : ¬ k < FM (szs m m.crs[i].pts):=by simpa using hc
     have hke:k=FM (szs m m.crs[i].pts):=by omega
     simp -implicitDefEqProofs only [CU,DR,II,EF,AA,↓reduceIte,Nat.reduceEqDiff]
     refine ⟨f1,f44,f45,gm,he,hlt,?_⟩
     rw [hgc,← hke]; exact ho
   ·rintro F' H' ⟨g1,g44,g45,gm',he',hlt',ho'⟩
    simp -implicitDefEqProofs only [AX,AZ,DU,EB,DZ,AU,A9,AL,AO,AJ,BA,AR,AC,AA,AY,AQ,BD,BB,BN,AB,CR,↓reduceIte,Nat.reduceEqDiff,Option.getD_some,Bool.not_false,enP,g45,CB (show i < 9223372036854775807 by omega)]
    exact ⟨n - 1,by omega,i+1,by omega,g1,g44,rfl,gm',he',hlt',ho'⟩
  ·have hi' : ¬ i < m.crs.length:=by simpa using hc
   have hie:i=m.crs.length:=by omega
   subst hie
   simp -implicitDefEqProofs only [A8,AX,BJ,CU,AZ,DR,EB,EF,CK,AU,A9,AL,AO,AJ,BA,AR,AC,AA,AY,BB,A7,↓reduceIte,Nat.reduceEqDiff,Option.getD_some,Bool.not_false]
   exact ⟨he,ho⟩
end Go.Proofs.YtocilianjfhifaaGreatDoor.Cov
/- The goals of a model: the reference; no condition but the bounds on lengths. -/
set_option linter.unusedSimpArgs false
set_option maxRecDepth 8000
namespace Go.Proofs.YtocilianjfhifaaGreatDoor.Cov
open Go Go.Proofs Go.Proofs.YtocilianjfhifaaGreatDoor.Sm Go.Proofs.YtocilianjfhifaaGreatDoor.Bins Go.RowKit

theorem AYC (i k:Int) (xs:List (List AV)):JX Tryz.prog 112 [(0,.agg [.bool false,.int .i64 i,.sl .full 1 xs]),(1,.int .i64 k)]=some (.agg [.bool false,.int .i64 i,.sl .full 1 xs,.int .i64 k]):=by kernel_rfl
theorem AYD (i k:Int) (xs:List (List AV)):JX Tryz.prog 112 [(0,.agg [.bool true,.int .i64 i,.sl .any 1 xs]),(1,.int .i64 k)]=some (.agg [.bool true,.int .i64 i,.sl .any 1 xs,.int .i64 k]):=by kernel_rfl
theorem bs54 (h:Hp) (g:Gl) (hf:(G7 g).all AV.frozen=true):FC Tryz.prog false h 103 1 [(0,.agg (G7 g))]=some (.sl .full 4 [G7 g],h):=by
 have h1:Tryz.prog.underlying 103=some (.slice 112):=AOR
 unfold FC
 simp only [h1,ACG,AOK]
 have h2:R7 4 0 [(0,AV.agg (G7 g))]=some [G7 g]:=rfl
 simp [h2,hf]
theorem ANE (G:Nat→AV) (m:Mo) (hm:MoOk m) (hg:Good m) (h:Hp):PCall (En G) 81 [.agg (DC m)] h (.sl (nm (goals m)) 4 ((goals m).map G7)):=by
 refine LA AXT ?_
 have hm1:=hm.np
 have hm2:=hm.nc
 have hnum:=hg.num
 refine BX (H:=Hint.none) (enM G) Tryz.func81 rfl (by kernel_rfl) (by kernel_rfl) (Nat.le_of_ble_eq_true (by kernel_rfl)) ?_
 show awp _ _ _ _ _ (EJ _ [.tmp 2] _)
 simp -implicitDefEqProofs only [A8,BM,AX,AZ,AU,A9,AL,AO,AJ,BA,AR,AC,AY,AQ,BD,EX,A7,EW,BO,BC,Option.getD_some,Bool.not_false,enP,bxM]
 refine FO 0 (fun F H=>F 1 = .ptr h.length 0 0∧H[h.length]? = some (.live 2 [DC m])∧ext h H∧(∀ b,isB (F 3) b→h.length < b)∧outG 4 G7 h (gC m 0) (F 3) H) (fun _ _=>False) ?_ ?_ (fun _ _ hh=>hh.elim)
 ·refine CS (fun n F H => ∃ i,n+i=m.pts.length∧F 1 = .ptr h.length 0 0∧F 4 = .int .i64 (i:Nat)∧H[h.length]? = some (.live 2 [DC m])∧ext h H∧(∀ b,isB (F 3) b→h.length < b)∧outG 4 G7 h (gP m i) (F 3) H) m.pts.length ⟨0,by simp,by simp -implicitDefEqProofs only [AA,↓reduceIte,Nat.reduceEqDiff],by simp -implicitDefEqProofs only [AA,↓reduceIte]; rfl,CQ _ _,(ext.rfl' h).app _,fun b hb=>hb.elim,outG.nil _ _ _ _⟩ ?_
  rintro n F H ⟨i,hi,f1,f4,gm,he,hlt,ho⟩
  simp -implicitDefEqProofs only [A8,AX,BF,AZ,AU,A9,AL,AO,AJ,BA,AR,AC,AA,AY,BB,BL,BN,BG,C8,AB,CO,↓reduceIte,Nat.reduceEqDiff,Nat.add_zero,Option.getD_some,Bool.not_false,enP,OZ,GZ,f1,f4,AEB gm,List.length_map]
  refine CG (fun hc => ?_) (fun hc => ?_)
  ·have hi':i < m.pts.length:=by simpa using hc
   have hgp:gP m (i+1)=gP m i ++ gPk i m.pts[i] m.pts[i].bins.length:=by
    simp only [gP]; rw [List.getElem?_eq_getElem hi']
   have h64:=(hg.full _ (List.getElem_mem hi')).2
   have hpl:=AEK hg.full i
   simp -implicitDefEqProofs only [A8,BM,AX,BK,AZ,AU,A9,AL,AO,AJ,BA,AR,AC,AQ,BD,A7,Option.getD_some,Bool.not_false]
   refine FO 2 (fun F' H'=>F' 1 = .ptr h.length 0 0∧F' 4 = .int .i64 (i:Nat)∧H'[h.length]? = some (.live 2 [DC m])∧ext h H'∧(∀ b,isB (F' 3) b→h.length < b)∧outG 4 G7 h (gP m (i+1)) (F' 3) H') (fun _ _=>False) ?_ ?_ (fun _ _ hh=>hh.elim)
   ·refine CS (fun n F' H' => ∃ k,n+k=m.pts[i].bins.length∧F' 1 = .ptr h.length 0 0∧F' 4 = .int .i64 (i:Nat)∧F' 5 = .int .i64 (k:Nat)∧H'[h.length]? = some (.live 2 [DC m])∧ext h H'∧(∀ b,isB (F' 3) b→h.length < b)∧outG 4 G7 h (gP m i ++ gPk i m.pts[i] k) (F' 3) H') m.pts[i].bins.length ⟨0,by simp,by simp -implicitDefEqProofs only [AA,↓reduceIte,Nat.reduceEqDiff,f1],by simp -implicitDefEqProofs only [AA,↓reduceIte,Nat.reduceEqDiff,f4],by simp -implicitDefEqProofs only [AA,↓reduceIte]; rfl,gm,he,hlt,by rw [show gPk i m.pts[i] 0 = [] from rfl,List.append_nil]; exact ho⟩ ?_
    clear f1 f4 gm he hlt ho
    rintro n' F H ⟨k,hk,f1,f4,f5,gm,he,hlt,ho⟩
    simp -implicitDefEqProofs only [A8,AX,BF,AZ,AU,A9,AL,AO,AJ,BA,AR,AC,AA,AY,BB,BL,BN,BG,BU,C8,AB,CO,↓reduceIte,Nat.reduceEqDiff,Nat.add_zero,Nat.zero_add,Option.getD_some,Bool.not_false,enP,MV,GZ,PI,HZ,f1,f4,f5,AEB gm,CW hi',CP NW hi',K3,List.length_map]
    refine CG (fun hc => ?_) (fun hc => ?_)
    ·have hk':k < m.pts[i].bins.length:=by simpa using hc
     have hkd:kindOf m.pts[i] k=(m.pts[i].bins[k]).kind:=by unfold kindOf; rw [List.getElem?_eq_getElem hk']
     have hkl:=YS i m.pts[i] k
     simp -implicitDefEqProofs only [A8,BM,AX,BK,BF,AZ,AU,A9,AL,AO,AJ,BA,AR,AC,AA,AY,AQ,BD,BB,BL,BN,BG,BU,AB,D9,↓reduceIte,Nat.reduceEqDiff,Nat.add_zero,Nat.zero_add,Option.getD_some,Bool.not_false,enP,MV,GZ,VH,HZ,KZ,f1,f4,f5,AEB gm,CW hi',CP NW hi',K3,CW hk',CP ag3 hk',PT]
     cases hz:(m.pts[i].bins[k].kind == 0)
     ·have hgk:gPk i m.pts[i] (k+1)=gPk i m.pts[i] k:=by
       simp only [gPk]; rw [hkd,hz]; simp
      simp -implicitDefEqProofs only [AX,BK,AZ,DU,DZ,DL,AU,A9,AL,AO,AJ,BA,AR,AC,AA,AY,AQ,BD,BB,A7,BN,AB,CR,↓reduceIte,Nat.reduceEqDiff,Option.getD_some,Bool.not_false,enP,f5,CB (show k < 9223372036854775807 by omega)]
      refine ⟨n' - 1,by omega,k+1,by omega,f1,f4,rfl,gm,he,hlt,?_⟩
      rw [hgk]; exact ho
     ·have hgk:gP m i ++ gPk i m.pts[i] (k+1)=(gP m i ++ gPk i m.pts[i] k) ++ [mkP i k]:=by
       simp only [gPk]; rw [hkd,hz,if_pos rfl,List.append_assoc]
      obtain ⟨v',H',ha,ho',hkeep,he',hle,hb'⟩:=ho.append AOR ACG AOK AU5 (by omega) (by rw [List.length_append]; omega) he (mkP i k)
      simp -implicitDefEqProofs only [E8,FI,AX,DI,AU,AL,AO,AJ,BA,AR,AC,AA,AY,BB,IR,EA,BO,AB,↓reduceIte,Nat.reduceEqDiff,Option.getD_some,Bool.not_false,enP,f4,f5,U1,AU9,AYC]
      rw [show [AV.bool false,AV.int .i64 ((i:Nat):Int),AV.sl .full 1 [[.int .i64 ((k:Nat):Int)]],AV.int .i64 ((k:Nat):Int)]=G7 (mkP i k) from rfl]
      simp -implicitDefEqProofs only [AU,AL,AO,AJ,BA,AR,AC,AA,AY,FT,BO,↓reduceIte,Nat.reduceEqDiff,Option.getD_some,Bool.not_false,enP,bs54 _ _ (show (G7 (mkP i k)).all AV.frozen=true from rfl)]
      refine FK (v:=v') (h:=H') ha ?_
      simp -implicitDefEqProofs only [AX,AZ,DU,DZ,AU,A9,AL,AO,AJ,BA,AR,AC,AA,AY,AQ,BD,BB,A7,BN,AB,CR,↓reduceIte,Nat.reduceEqDiff,Option.getD_some,Bool.not_false,enP,f5,CB (show k < 9223372036854775807 by omega)]
      refine ⟨n' - 1,by omega,k+1,by omega,f1,f4,rfl,hkeep _ _ gm (fun e=>by have:=hlt _ e; omega),he',fun b hbb => ?_,?_⟩
      ·have h1:=hb' b hbb; have h2:=CE gm; omega
      ·rw [hgk]; exact ho'
    ·have hk' : ¬ k < m.pts[i].bins.length:=by simpa using hc
     have hke:k=m.pts[i].bins.length:=by omega
     simp -implicitDefEqProofs only [CU,DR,II,EF,AA,↓reduceIte,Nat.reduceEqDiff]
     refine ⟨f1,f4,gm,he,hlt,?_⟩
     rw [hgp,← hke]; exact ho
   ·rintro F' H' ⟨g1,g4,gm',he',hlt',ho'⟩
    simp -implicitDefEqProofs only [AX,AZ,DU,EB,DZ,AU,A9,AL,AO,AJ,BA,AR,AC,AA,AY,AQ,BD,BB,A7,BN,AB,CR,↓reduceIte,Nat.reduceEqDiff,Option.getD_some,Bool.not_false,enP,g4,CB (show i < 9223372036854775807 by omega)]
    exact ⟨n - 1,by omega,i+1,by omega,g1,rfl,gm',he',hlt',ho'⟩
  ·have hi' : ¬ i < m.pts.length:=by simpa using hc
   have hie:i=m.pts.length:=by omega
   subst hie
   simp -implicitDefEqProofs only [CU,DR,II,EF,AA,↓reduceIte,Nat.reduceEqDiff]
   exact ⟨f1,gm,he,hlt,ho⟩
 ·rintro F H ⟨f1,gm,he,hlt,ho⟩
  simp -implicitDefEqProofs only [A8,BM,AX,AZ,EB,AU,A9,AL,AO,AJ,BA,AR,AC,AQ,BD,A7,↓reduceIte,Option.getD_some,Bool.not_false]
  refine CS (fun n F H => ∃ i,n+i=m.crs.length∧F 1 = .ptr h.length 0 0∧F 6 = .int .i64 (i:Nat)∧H[h.length]? = some (.live 2 [DC m])∧ext h H∧(∀ b,isB (F 3) b→h.length < b)∧outG 4 G7 h (gC m i) (F 3) H) m.crs.length ⟨0,by simp,by simp -implicitDefEqProofs only [AA,↓reduceIte,Nat.reduceEqDiff,f1],by simp -implicitDefEqProofs only [AA,↓reduceIte]; rfl,gm,he,hlt,ho⟩ ?_
  clear f1 gm he hlt ho
  rintro n F H ⟨i,hi,f1,f6,gm,he,hlt,ho⟩
  simp -implicitDefEqProofs only [A8,AX,BF,AZ,AU,A9,AL,AO,AJ,BA,AR,AC,AA,AY,BB,BL,BN,BG,C8,AB,CO,↓reduceIte,Nat.reduceEqDiff,Nat.zero_add,Option.getD_some,Bool.not_false,enP,Q5,H7,f1,f6,ABT gm,List.length_map]
  refine CG (fun hc => ?_) (fun hc => ?_)
  ·have hi':i < m.crs.length:=by simpa using hc
   have hcg:=hg.crs _ (List.getElem_mem hi')
   have hfs:=hg.full.szs hcg.here
   have hgc:gC m (i+1)=gC m i ++ gCk m i m.crs[i] (FM (szs m m.crs[i].pts)):=by
    simp only [gC]; rw [List.getElem?_eq_getElem hi']
   have hpr:=hcg.prod
   have hcl:=AEL hg i
   simp -implicitDefEqProofs only [A8,BM,AX,BK,AZ,AU,A9,AL,AO,AJ,BA,AR,AC,AQ,BD,A7,Option.getD_some,Bool.not_false]
   refine FO 6 (fun F' H'=>F' 1 = .ptr h.length 0 0∧F' 6 = .int .i64 (i:Nat)∧H'[h.length]? = some (.live 2 [DC m])∧ext h H'∧(∀ b,isB (F' 3) b→h.length < b)∧outG 4 G7 h (gC m (i+1)) (F' 3) H') (fun _ _=>False) ?_ ?_ (fun _ _ hh=>hh.elim)
   ·refine CS (fun n F' H' => ∃ k,n+k=FM (szs m m.crs[i].pts)∧F' 1 = .ptr h.length 0 0∧F' 6 = .int .i64 (i:Nat)∧F' 7 = .int .i64 (k:Nat)∧H'[h.length]? = some (.live 2 [DC m])∧ext h H'∧(∀ b,isB (F' 3) b→h.length < b)∧outG 4 G7 h (gC m i ++ gCk m i m.crs[i] k) (F' 3) H') (FM (szs m m.crs[i].pts)) ⟨0,by simp,by simp -implicitDefEqProofs only [AA,↓reduceIte,Nat.reduceEqDiff,f1],by simp -implicitDefEqProofs only [AA,↓reduceIte,Nat.reduceEqDiff,f6],by simp -implicitDefEqProofs only [AA,↓reduceIte]; rfl,gm,he,hlt,by rw [show gCk m i m.crs[i] 0 = [] from rfl,List.append_nil]; exact ho⟩ ?_
    clear f1 f6 gm he hlt ho
    rintro n' F H ⟨k,hk,f1,f6,f7,gm,he,hlt,ho⟩
    simp -implicitDefEqProofs only [A8,AX,AU,AL,AO,AJ,BA,AR,AC,AA,AY,BS,BB,BL,BV,BR,AB,List.map_cons,List.map_nil,List.append_nil,↓reduceIte,Nat.reduceEqDiff,Option.getD_some,Bool.not_false,enP,f1,f6,f7,ldM gm]
    refine (ZE G m i hi' hcg hg.full _).use ?_
    simp -implicitDefEqProofs only [BF,AZ,AU,A9,AL,AO,AJ,BA,AR,AC,AA,AY,BN,AB,CO,↓reduceIte,Nat.reduceEqDiff,Option.getD_some,Bool.not_false,enP]
    refine CG (fun hc => ?_) (fun hc => ?_)
    ·have hk':k < FM (szs m m.crs[i].pts):=by simpa using hc
     have hkl:=YT m i m.crs[i] k
     simp -implicitDefEqProofs only [A8,BM,AX,BK,AZ,AU,AL,AO,AJ,BA,AR,AC,AA,AY,BS,BB,BL,BV,BR,AB,List.map_cons,List.map_nil,List.append_nil,↓reduceIte,Nat.reduceEqDiff,Option.getD_some,Bool.not_false,enP,f1,f6,f7,ldM gm]
     refine (AFP G m i hi' hcg hg.full k hk' _).use ?_
     simp -implicitDefEqProofs only [List.getElem?_cons_zero,List.getElem?_cons_succ,A8,AX,AZ,AU,A9,AL,AO,AJ,BA,AR,AC,AA,AY,BS,BB,A7,BL,D8,FB,BV,BR,AB,List.map_cons,List.map_nil,List.append_nil,↓reduceIte,Nat.reduceEqDiff,Option.getD_some,Bool.not_false,enP,f1,f6,ldM gm]
     refine (AEY G m i hi' hcg _ _ (R3 _ _ fun n hn=>(hfs n hn).1) _).use ?_
     simp -implicitDefEqProofs only [BF,AZ,AU,A9,AL,AO,AJ,BA,AR,AC,AA,AY,F9,AB,ER,↓reduceIte,Option.getD_some,Bool.not_false]
     cases hz:OE m m.crs[i] (L9 (szs m m.crs[i].pts) k)
     ·have hgk:gCk m i m.crs[i] (k+1)=gCk m i m.crs[i] k:=by
       simp only [gCk]; rw [hz]; simp
      simp -implicitDefEqProofs only [AX,BK,AZ,DU,DZ,DL,AU,A9,AL,AO,AJ,BA,AR,AC,AA,AY,AQ,BD,BB,A7,BN,AB,CR,↓reduceIte,Nat.reduceEqDiff,Option.getD_some,Bool.not_true,Bool.not_false,enP,f7,CB (show k < 9223372036854775807 by omega)]
      refine ⟨n' - 1,by omega,k+1,by omega,f1,f6,rfl,gm,he,hlt,?_⟩
      rw [hgk]; exact ho
     ·have hgk:gC m i ++ gCk m i m.crs[i] (k+1)=(gC m i ++ gCk m i m.crs[i] k) ++ [mkC m i k m.crs[i]]:=by
       simp only [gCk]; rw [hz,if_pos rfl,List.append_assoc]
      obtain ⟨v',H',ha,ho',hkeep,he',hle,hb'⟩:=ho.append AOR ACG AOK AU5 (by omega) (by rw [List.length_append]; omega) he (mkC m i k m.crs[i])
      simp -implicitDefEqProofs only [E8,FI,AX,DI,AU,AL,AO,AJ,BA,AR,AC,AA,AY,AQ,BI,BB,IR,EA,AB,↓reduceIte,Nat.reduceEqDiff,Option.getD_some,Bool.not_true,Bool.not_false,enP,f6,f7,AVA,AYD]
      rw [show [AV.bool true,AV.int .i64 ((i:Nat):Int),AV.sl .any 1 ((L9 (szs m m.crs[i].pts) k).map encI),AV.int .i64 ((k:Nat):Int)]=G7 (mkC m i k m.crs[i]) from rfl]
      simp -implicitDefEqProofs only [AU,AL,AO,AJ,BA,AR,AC,AA,AY,FT,BO,↓reduceIte,Nat.reduceEqDiff,Option.getD_some,Bool.not_false,enP,bs54 _ _ (show (G7 (mkC m i k m.crs[i])).all AV.frozen=true from rfl)]
      refine FK (v:=v') (h:=H') ha ?_
      simp -implicitDefEqProofs only [AX,AZ,DU,DZ,AU,A9,AL,AO,AJ,BA,AR,AC,AA,AY,AQ,BD,BB,A7,BN,AB,CR,↓reduceIte,Nat.reduceEqDiff,Option.getD_some,Bool.not_false,enP,f7,CB (show k < 9223372036854775807 by omega)]
      refine ⟨n' - 1,by omega,k+1,by omega,f1,f6,rfl,hkeep _ _ gm (fun e=>by have:=hlt _ e; omega),he',fun b hbb => ?_,?_⟩
      ·have h1:=hb' b hbb; have h2:=CE gm; omega
      ·rw [hgk]; exact ho'
    ·have hk' : ¬ k < FM (szs m m.crs[i].pts):=by simpa using hc
     have hke:k=FM (szs m m.crs[i].pts):=by omega
     simp -implicitDefEqProofs only [CU,DR,II,EF,AA,↓reduceIte,Nat.reduceEqDiff]
     refine ⟨f1,f6,gm,he,hlt,?_⟩
     rw [hgc,← hke]; exact ho
   ·rintro F' H' ⟨g1,g6,gm',he',hlt',ho'⟩
    simp -implicitDefEqProofs only [AX,AZ,DU,EB,DZ,AU,A9,AL,AO,AJ,BA,AR,AC,AA,AY,AQ,BD,BB,A7,BN,AB,CR,↓reduceIte,Nat.reduceEqDiff,Option.getD_some,Bool.not_false,enP,g6,CB (show i < 9223372036854775807 by omega)]
    exact ⟨n - 1,by omega,i+1,by omega,g1,rfl,gm',he',hlt',ho'⟩
  ·have hi' : ¬ i < m.crs.length:=by simpa using hc
   have hie:i=m.crs.length:=by omega
   subst hie
   simp -implicitDefEqProofs only [A8,AX,BJ,CU,AZ,DR,EB,EF,CK,AU,A9,AL,AO,AJ,BA,AR,AC,AA,AY,BB,A7,↓reduceIte,Nat.reduceEqDiff,Option.getD_some,Bool.not_false]
   exact ⟨he,ho⟩
end Go.Proofs.YtocilianjfhifaaGreatDoor.Cov
