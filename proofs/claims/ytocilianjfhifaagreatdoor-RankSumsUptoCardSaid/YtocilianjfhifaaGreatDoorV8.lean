/- Part 8 of the proof (N7, N8, N9, N10, N11, N12, N13, N14); no condition. -/
import Derived.Test.YtocilianjfhifaaGreatDoorV7
set_option linter.unusedVariables false
/- The count of a goal, and what is made of goals, on both sides; no condition but the bounds on lengths, and cover.tuple's contract. -/
set_option linter.unusedSimpArgs false
set_option maxRecDepth 8000
namespace Go.Proofs.YtocilianjfhifaaGreatDoor.Cov
open Go Go.Proofs Go.Proofs.YtocilianjfhifaaGreatDoor.Sm Go.Proofs.YtocilianjfhifaaGreatDoor.Bins Go.RowKit

def cellAt (l:List Is) (i k:Nat):Int:=match l[i]? with
 | some x=>(match x.l[k]? with | some z=>z | none=>0)
 | none=>0
def G8 (v:Cvr) (g:Gl):Int:=if g.cross then cellAt v.crs g.idx g.at_ else cellAt v.pts g.idx g.at_
def InL (l:List Is) (i k:Nat):Prop := ∃ hi:i < l.length,k < (l[i]'hi).l.length
def InR (v:Cvr) (g:Gl):Prop:=if g.cross=true then InL v.crs g.idx g.at_ else InL v.pts g.idx g.at_
theorem SC {l:List Is} {i k:Nat} (h:InL l i k) : ∃ (hi:i < l.length) (hk:k < l[i].l.length),cellAt l i k=l[i].l[k]:=by
 obtain ⟨hi,hk⟩:=h
 refine ⟨hi,hk,?_⟩
 unfold cellAt
 rw [List.getElem?_eq_getElem hi]
 simp only
 rw [List.getElem?_eq_getElem hk]
def ASV (m:Mo) (g:Gl):Prop:=(g.cross=false∧∃ p,m.pts[g.idx]? = some p∧g.at_ < p.bins.length)∨(g.cross=true∧∃ c,m.crs[g.idx]? = some c∧g.at_ < FY (szs m c.pts))
theorem ABT {i:Nat} {p:Pt} : ∀ {k:Nat} {g:Gl},g∈gPk i p k→g.cross=false∧g.idx=i∧g.at_ < k
 | 0,g,h=>by cases h
 | k+1,g,h=>by
   simp only [gPk,List.mem_append] at h
   rcases h with h | h
   ·obtain ⟨h1,h2,h3⟩:=ABT h; exact ⟨h1,h2,by omega⟩
   ·split at h
    ·simp at h; subst h; exact ⟨rfl,rfl,Nat.lt_succ_self k⟩
    ·cases h
theorem AV8 {m:Mo} : ∀ {i:Nat} {g:Gl},g∈gP m i→ASV m g
 | 0,g,h=>by cases h
 | i+1,g,h=>by
   simp only [gP,List.mem_append] at h
   rcases h with h | h
   ·exact AV8 h
   ·split at h
    ·rename_i p hp
     obtain ⟨h1,h2,h3⟩:=ABT h
     exact .inl ⟨h1,p,by rw [h2]; exact hp,h3⟩
    ·cases h
theorem ABU {m:Mo} {i:Nat} {c:Cr} : ∀ {k:Nat} {g:Gl},g∈gCk m i c k→g.cross=true∧g.idx=i∧g.at_ < k
 | 0,g,h=>by cases h
 | k+1,g,h=>by
   simp only [gCk,List.mem_append] at h
   rcases h with h | h
   ·obtain ⟨h1,h2,h3⟩:=ABU h; exact ⟨h1,h2,by omega⟩
   ·split at h
    ·simp at h; subst h; exact ⟨rfl,rfl,Nat.lt_succ_self k⟩
    ·cases h
theorem ARC {m:Mo} : ∀ {i:Nat} {g:Gl},g∈gC m i→ASV m g
 | 0,g,h=>AV8 h
 | i+1,g,h=>by
   simp only [gC,List.mem_append] at h
   rcases h with h | h
   ·exact ARC h
   ·split at h
    ·rename_i c hc
     obtain ⟨h1,h2,h3⟩:=ABU h
     exact .inr ⟨h1,c,by rw [h2]; exact hc,h3⟩
    ·cases h
theorem QI {α:Type} {ok:α→Is→Bool} : ∀ {ws:List α} {xs:List Is},KQ ok ws xs=true→∀ (i:Nat) (a:α),ws[i]? = some a→∃ x,xs[i]? = some x∧ok a x=true
 | [],[],_,i,a,h=>by simp at h
 | w :: ws,x :: xs,h,i,a,ha=>by
   simp only [KQ,Bool.and_eq_true] at h
   cases i with
   | zero=>simp at ha; subst ha; exact ⟨x,rfl,h.1⟩
   | succ i=>exact QI h.2 i a (by simpa using ha)
 | [],_ :: _,h,_,_,_=>by cases h
 | _ :: _,[],h,_,_,_=>by cases h
theorem AQ3 {l:List Is} {i k n:Nat} {x:Is} (hx:l[i]? = some x) (hn:x.l.length=n) (hk:k < n):InL l i k:=by
 obtain ⟨hi,e⟩:=List.getElem?_eq_some_iff.1 hx
 exact ⟨hi,by rw [e]; omega⟩
theorem WF {m:Mo} {v:Cvr} (hf:FN m v=true) {g:Gl} (hg:g∈goals m):InR v g:=by
 unfold FN at hf
 simp only [Bool.and_eq_true] at hf
 obtain ⟨⟨⟨⟨_,h1⟩,h2⟩,_⟩,_⟩:=hf
 unfold InR
 rcases ARC hg with ⟨hc,p,hp,hk⟩ | ⟨hc,c,hcc,hk⟩
 ·rw [if_neg (by simp [hc])]
  obtain ⟨x,hx,ho⟩:=QI h1 _ _ hp
  unfold okP at ho
  simp only [Bool.and_eq_true,beq_iff_eq] at ho
  exact AQ3 hx ho.1 hk
 ·rw [if_pos hc]
  obtain ⟨x,hx,ho⟩:=QI h2 _ _ hcc
  unfold okC at ho
  simp only [Bool.and_eq_true,beq_iff_eq] at ho
  exact AQ3 hx ho.1 hk
theorem AWF (g:Gl):(IJ g)[0]? = some (.bool g.cross):=rfl
theorem AWE (g:Gl):(IJ g)[1]? = some (.int .i64 (g.idx:Int)):=rfl
theorem AWD (g:Gl):(IJ g)[3]? = some (.int .i64 (g.at_:Int)):=rfl
theorem bxG (h:Hp) (g:Gl):PY h (.agg (IJ g))=some (.ptr h.length 0 0,h ++ [.live 4 [IJ g]]):=rfl
theorem VR (G:Nat→AV) (v:Cvr) (g:Gl) (hi:InR v g) (h:Hp):PCall (En G) 82 [.agg (IJ g),.agg (EF v)] h (.bool (decide (G8 v g > 0))):=by
 refine ACalls.pure0 rfl ?_
 refine CG (H:=Hint.none) (enM G) Tryz.func82 rfl (by kernel_rfl) (by kernel_rfl) (Nat.le_of_ble_eq_true (by kernel_rfl)) ?_
 show awp _ _ _ _ _ (EU _ [.tmp 4] _)
 have gg:(h ++ [ABlk.live 4 [IJ g]] ++ [ABlk.live 4 [EF v]])[h.length]? = some (.live 4 [IJ g]):=DL (CX _ _)
 have gv:=CX (h ++ [ABlk.live 4 [IJ g]]) (.live 4 [EF v])
 have hx : ∃ x,h ++ [ABlk.live 4 [IJ g]] ++ [ABlk.live 4 [EF v]]=h ++ x:=⟨_,List.append_assoc _ _ _⟩
 simp -implicitDefEqProofs only [BB,AZ,A8,AY,BC,AO,AQ,AL,BD,AX,AC,AA,A7,AU,BL,BA,FK,BO,BJ,BR,AB,BG,BV,↓reduceIte,Nat.reduceEqDiff,Nat.add_zero,Option.getD_some,Bool.not_false,enP,AAI,AAH,bxG,bxV]
 generalize h ++ [ABlk.live 4 [IJ g]] ++ [ABlk.live 4 [EF v]]=H at gg gv hx ⊢
 generalize (h ++ [ABlk.live 4 [IJ g]]).length=vb at gv ⊢
 have l0:EE Tryz.prog H 4 (.ptr h.length 0 0)=some (.bool g.cross):=by rw [D6 ag4 gg (row:=IJ g) rfl,AWF]
 have l1:EE Tryz.prog H 3 (.ptr h.length 0 1)=some (.int .i64 (g.idx:Int)):=by rw [D6 ag3 gg (row:=IJ g) rfl,AWE]
 have l3:EE Tryz.prog H 3 (.ptr h.length 0 3)=some (.int .i64 (g.at_:Int)):=by rw [D6 ag3 gg (row:=IJ g) rfl,AWD]
 have lv0:EE Tryz.prog H 26 (.ptr vb 0 0)=some (.sl v.pm 1 (v.pts.map HY)):=by rw [D6 SH gv (row:=EF v) rfl,AIR]
 have lv1:EE Tryz.prog H 26 (.ptr vb 0 1)=some (.sl v.cm 1 (v.crs.map HY)):=by rw [D6 SH gv (row:=EF v) rfl,AIQ]
 simp -implicitDefEqProofs only [BI,A8,BC,AC,AA,A7,AB,↓reduceIte,l0]
 unfold InR at hi
 cases hc:g.cross
 ·rw [if_neg (by simp [hc])] at hi
  obtain ⟨h1,h2,h3⟩:=SC hi
  have hcg:G8 v g=v.pts[g.idx].l[g.at_]:=by unfold G8; rw [hc,if_neg (by simp),h3]
  simp -implicitDefEqProofs only [BB,BN,A8,DY]
  refine ER (by kernel_rfl) ?_
  simp -implicitDefEqProofs only [F7,D9,DT,E8,EC,IQ,FC,IE,D5,D7,BM,A8,CU,AO,AA,A7,AU,BH,BO,BQ,BJ,BZ,AB,EW,↓reduceIte,Nat.reduceEqDiff,Nat.reduceAdd,Nat.add_zero,Nat.zero_add,Option.getD_some,enP,QT,OY,JQ,XN,AAH,AM2,l1,l3,lv0,DJ h1,CV LC h1,NC,DJ h2,CV ag3 h2,encI0]
  exact ⟨by rw [hcg],hx⟩
 ·rw [if_pos hc] at hi
  obtain ⟨h1,h2,h3⟩:=SC hi
  have hcg:G8 v g=v.crs[g.idx].l[g.at_]:=by unfold G8; rw [hc,if_pos rfl,h3]
  simp -implicitDefEqProofs only [BB,DX]
  refine ER (by kernel_rfl) ?_
  simp -implicitDefEqProofs only [F7,D9,DT,E8,EC,IQ,FC,IE,D5,D7,BM,A8,CS,CU,AO,AA,A7,AU,BH,BO,BQ,BJ,BZ,AB,EW,↓reduceIte,Nat.reduceEqDiff,Nat.reduceAdd,Nat.add_zero,Nat.zero_add,Option.getD_some,enP,QT,NS,JQ,XN,AAH,AM2,l1,l3,lv1,DJ h1,CV LC h1,NC,DJ h2,CV ag3 h2,encI0]
  exact ⟨by rw [hcg],hx⟩
theorem ACC (G:Nat→AV) (v:Cvr) (g:Gl) (hi:InR v g) (h:Hp):PCall (En G) 83 [.agg (EF v),.agg (IJ g)] h (.int .i64 (G8 v g)):=by
 refine ACalls.pure0 rfl ?_
 refine CG (H:=Hint.none) (enM G) Tryz.func83 rfl (by kernel_rfl) (by kernel_rfl) (Nat.le_of_ble_eq_true (by kernel_rfl)) ?_
 show awp _ _ _ _ _ (EU _ [.tmp 4] _)
 have gv:(h ++ [ABlk.live 4 [EF v]] ++ [ABlk.live 4 [IJ g]])[h.length]? = some (.live 4 [EF v]):=DL (CX _ _)
 have gg:=CX (h ++ [ABlk.live 4 [EF v]]) (.live 4 [IJ g])
 have hx : ∃ x,h ++ [ABlk.live 4 [EF v]] ++ [ABlk.live 4 [IJ g]]=h ++ x:=⟨_,List.append_assoc _ _ _⟩
 simp -implicitDefEqProofs only [BB,AZ,A8,AY,BC,AO,AQ,AL,BD,AX,AC,AA,A7,AU,BH,BA,FK,BO,BJ,BR,AB,BG,BV,↓reduceIte,Nat.reduceEqDiff,Nat.add_zero,Option.getD_some,Bool.not_false,enP,AAI,AF9,bxG,bxV]
 generalize h ++ [ABlk.live 4 [EF v]] ++ [ABlk.live 4 [IJ g]]=H at gg gv hx ⊢
 generalize (h ++ [ABlk.live 4 [EF v]]).length=gb at gg ⊢
 have l0:EE Tryz.prog H 4 (.ptr gb 0 0)=some (.bool g.cross):=by rw [D6 ag4 gg (row:=IJ g) rfl,AWF]
 have l1:EE Tryz.prog H 3 (.ptr gb 0 1)=some (.int .i64 (g.idx:Int)):=by rw [D6 ag3 gg (row:=IJ g) rfl,AWE]
 have l3:EE Tryz.prog H 3 (.ptr gb 0 3)=some (.int .i64 (g.at_:Int)):=by rw [D6 ag3 gg (row:=IJ g) rfl,AWD]
 have lv0:EE Tryz.prog H 26 (.ptr h.length 0 0)=some (.sl v.pm 1 (v.pts.map HY)):=by rw [D6 SH gv (row:=EF v) rfl,AIR]
 have lv1:EE Tryz.prog H 26 (.ptr h.length 0 1)=some (.sl v.cm 1 (v.crs.map HY)):=by rw [D6 SH gv (row:=EF v) rfl,AIQ]
 simp -implicitDefEqProofs only [BI,A8,BC,AC,AA,A7,AB,↓reduceIte,l0]
 unfold InR at hi
 cases hc:g.cross
 ·rw [if_neg (by simp [hc])] at hi
  obtain ⟨h1,h2,h3⟩:=SC hi
  have hcg:G8 v g=v.pts[g.idx].l[g.at_]:=by unfold G8; rw [hc,if_neg (by simp),h3]
  simp -implicitDefEqProofs only [BB,BN,A8,DY]
  refine ER (by kernel_rfl) ?_
  simp -implicitDefEqProofs only [F7,D9,DT,E8,EC,IQ,FC,D5,D7,BM,A8,CU,AO,AA,A7,BO,BJ,BZ,AB,↓reduceIte,Nat.reduceEqDiff,Nat.reduceAdd,Nat.add_zero,Nat.zero_add,Option.getD_some,enP,QT,OY,JQ,XN,AF9,AM1,l1,l3,lv0,DJ h1,CV LC h1,NC,DJ h2,CV ag3 h2,encI0]
  exact ⟨by rw [hcg],hx⟩
 ·rw [if_pos hc] at hi
  obtain ⟨h1,h2,h3⟩:=SC hi
  have hcg:G8 v g=v.crs[g.idx].l[g.at_]:=by unfold G8; rw [hc,if_pos rfl,h3]
  simp -implicitDefEqProofs only [BB,DX]
  refine ER (by kernel_rfl) ?_
  simp -implicitDefEqProofs only [F7,D9,DT,E8,EC,IQ,FC,D5,D7,BM,A8,CS,CU,AO,AA,A7,BO,BJ,BZ,AB,↓reduceIte,Nat.reduceEqDiff,Nat.reduceAdd,Nat.add_zero,Nat.zero_add,Option.getD_some,enP,QT,NS,JQ,XN,AF9,AM1,l1,l3,lv1,DJ h1,CV LC h1,NC,DJ h2,CV ag3 h2,encI0]
  exact ⟨by rw [hcg],hx⟩
end Go.Proofs.YtocilianjfhifaaGreatDoor.Cov
/- Goal, Reached, Holes, Gain of the program; no condition but the variables that are laid, the bounds on lengths, and cover.tuple's contract. -/
set_option linter.unusedSimpArgs false
set_option maxRecDepth 8000
namespace Go.Proofs.YtocilianjfhifaaGreatDoor.Cov
open Go Go.Proofs Go.Proofs.YtocilianjfhifaaGreatDoor.Sm Go.Proofs.YtocilianjfhifaaGreatDoor.Bins Go.RowKit

theorem AO1 (g:Gl):(IJ g).all AV.leaf=true:=rfl
theorem ARW (g:Gl):(JU g).all AV.frozen=true:=rfl
theorem AZW (h:Hp):KD Tryz.prog h 108=some (.ptr h.length 0 0,h ++ [.live 4 [[.bool false,.int .i64 0,.sl .nil 0 [],.int .i64 0]]]):=JY (row := [.bool false,.int .i64 0,.sl .nil 0 [],.int .i64 0]) (by kernel_rfl)
theorem AYP (h:Hp) (g:Gl) (row:List AV) (hr:row.length=4):GG Tryz.prog (h ++ [.live 4 [row]]) 108 (.ptr h.length 0 0) (.agg (IJ g))=some (h ++ [.live 4 [IJ g]]):=by
 rw [OU (UZ (AO1 g)) (by rw [OE]; exact Y6) (by rw [OE,hr]; exact Nat.le_refl _)]
 have:splice row 0 (IJ g)=IJ g:=by unfold splice; simp [OE,hr]
 rw [this]
theorem ldG {h:Hp} {b:Nat} {g:Gl} (hb:h[b]? = some (.live 4 [IJ g])):EE Tryz.prog h 108 (.ptr b 0 0)=some (.agg (IJ g)):=by
 rw [JE ASR Y6 hb rfl (by rw [OE]; exact Nat.le_refl 4)]; rfl
theorem ldH {h:Hp} {b:Nat} {g:Gl} (hb:h[b]? = some (.live 4 [IJ g])):EE Tryz.prog h 106 (.ptr b 0 0)=some (.agg (JU g)):=by
 rw [JE AJL VO hb rfl (by rw [OE]; omega)]; rfl
theorem A03 (h:Hp) (g:Gl):FO Tryz.prog false h 32 1 [(0,.agg (JU g))]=some (.sl .full 3 [JU g],h):=by
 have h1:Tryz.prog.underlying 32=some (.slice 106):=AWW
 unfold FO
 simp only [h1,VO,AYH]
 have h2:UE 3 0 [(0,AV.agg (JU g))]=some [JU g]:=rfl
 simp [h2,ARW]
theorem L9 {m:Mo} {v:Cvr} (hf:FN m v=true):FU m=0:=by
 unfold FN at hf
 simp only [Bool.and_eq_true,beq_iff_eq] at hf
 exact hf.1.1.1.1
def Q9 (m:Mo) (v:Cvr):Nat:=if FN m v=true then (goals m).countP (fun g=>decide (G8 v g > 0)) else 0
theorem UO {α:Type} (p:α→Bool) (xs:List α) (k:Nat) (hk:k < xs.length):(xs.take (k+1)).countP p=(xs.take k).countP p+(if p xs[k]=true then 1 else 0):=by
 rw [List.take_succ_eq_append_getElem hk,List.countP_append]; simp
theorem AIL {α:Type} (p:α→Bool) (xs:List α) (k:Nat) (hk:k < xs.length):(xs.take (k+1)).filter p=(xs.take k).filter p ++ (if p xs[k]=true then [xs[k]] else []):=by
 rw [List.take_succ_eq_append_getElem hk,List.filter_append]; simp [List.filter_cons]
theorem AA5 (G:Nat→AV) (hG:GOk G) (hT:J5 G) (m:Mo) (v:Cvr) (hm:MoOk m) (hv:CvOk v) (h:Hp):PCall (En G) 24 [.agg (DU m),.agg (EF v)] h (.int .i64 (Q9 m v)):=by
 refine ACalls.pure0 rfl ?_
 refine CG (H:=Hint.none) (enM G) Tryz.func24 rfl (by kernel_rfl) (by kernel_rfl) (Nat.le_of_ble_eq_true (by kernel_rfl)) ?_
 show awp _ _ _ _ _ (EU _ [.tmp 4] _)
 have t:=TwoV.mk' h m v
 simp -implicitDefEqProofs only [BB,AZ,A8,AY,BC,AO,AQ,AL,BD,AX,AC,AA,A7,AU,BH,BA,FK,BO,BR,BG,BV,↓reduceIte,Nat.reduceEqDiff,Option.getD_some,Bool.not_false,enP,bxM,bxV]
 generalize h ++ [ABlk.live 2 [DU m]] ++ [ABlk.live 4 [EF v]]=H at t ⊢
 generalize (h ++ [ABlk.live 2 [DU m]]).length=vb at t ⊢
 simp -implicitDefEqProofs only [AY,AO,AQ,AL,BD,AX,AC,AA,A7,CB,BO,CE,BX,AB,List.map_cons,List.map_nil,List.append_nil,↓reduceIte,Nat.reduceEqDiff,Option.getD_some,Bool.not_false,enP,ldM t.gm,ldV t.gv]
 refine (VE G hG hT m v hm hv _).use ?_
 simp -implicitDefEqProofs only [BI,A8,AY,BC,AO,AQ,AL,BD,AX,AC,AA,A7,H9,AB,FB,↓reduceIte,Option.getD_some,Bool.not_false]
 cases hf:FN m v
 ·simp -implicitDefEqProofs only [BB,AZ,BM,A8,CS,CU,DX,AY,BC,AO,AQ,AL,BD,AX,AC,AA,AU,BH,BA,↓reduceIte,Option.getD_some,Bool.not_false]
  exact ⟨by unfold Q9; rw [hf]; rfl,t.hx⟩
 have hg:=J4 (L9 hf)
 have hgl:=KT hg
 have hin : ∀ g∈goals m,InR v g:=fun g hg'=>WF hf hg'
 simp -implicitDefEqProofs only [BB,AZ,BN,A8,DY,AY,BC,AO,AQ,AL,BD,AX,AC,AA,A7,AU,CB,BH,BA,BO,CE,BX,AB,List.map_cons,List.map_nil,List.append_nil,↓reduceIte,Nat.reduceEqDiff,Option.getD_some,Bool.not_true,Bool.not_false,enP,ldM t.gm]
 refine (ABQ G m hm hg _).use ?_
 have hrn:Q9 m v=(goals m).countP (fun g=>decide (G8 v g > 0)):=by unfold Q9; rw [if_pos hf]
 rw [hrn]
 generalize goals m=gs at hgl hin ⊢
 simp -implicitDefEqProofs only [BP,A8,AY,BC,AO,AQ,AL,BD,AX,AC,AA,A7,AU,BH,BF,DN,AB,↓reduceIte,Option.getD_some,Bool.not_false,enP,AV2,List.length_map]
 refine C9 (fun n F H' => ∃ k,n+k=gs.length∧F 3 = .ptr vb 0 0∧F 5 = .int .i64 ((gs.take k).countP (fun g=>decide (G8 v g > 0)):Nat)∧F 13 = .sl (nm gs) 4 (gs.map IJ)∧F 14 = .int .i64 gs.length∧F 15 = .int .i64 (k:Nat)∧H'[vb]? = some (.live 4 [EF v])∧∃ x,H'=h ++ x) gs.length ⟨0,by simp,by simp -implicitDefEqProofs only [AA,↓reduceIte,Nat.reduceEqDiff],by simp -implicitDefEqProofs only [AA,↓reduceIte,Nat.reduceEqDiff]; rfl,by simp -implicitDefEqProofs only [AA,↓reduceIte,Nat.reduceEqDiff],by simp -implicitDefEqProofs only [AA,↓reduceIte,Nat.reduceEqDiff],by simp -implicitDefEqProofs only [AA,↓reduceIte]; rfl,t.gv,t.hx⟩ ?_
 rintro n F H' ⟨k,hk,f3,f5,f13,f14,f15,gv,x,rfl⟩
 simp -implicitDefEqProofs only [BB,AZ,BI,A8,AY,BC,AO,AQ,AL,BD,AX,AC,AA,A7,BQ,AB,CW,↓reduceIte,Option.getD_some,Bool.not_false,enP,f14,f15]
 refine CQ (fun hc => ?_) (fun hc => ?_)
 ·have hk':k < gs.length:=by simpa using hc
  have hcl:(gs.take k).countP (fun g=>decide (G8 v g > 0))≤k:=Nat.le_trans (List.countP_le_length) (by simp; omega)
  have hct:=UO (fun g=>decide (G8 v g > 0)) gs k hk'
  simp -implicitDefEqProofs only [BB,BP,AZ,BN,A8,AY,BC,AO,AQ,AL,BD,AX,AC,EZ,AA,A7,CB,FW,BO,EI,BZ,CE,BX,BR,AB,DR,List.map_cons,List.map_nil,List.append_nil,↓reduceIte,Nat.reduceEqDiff,Option.getD_some,Bool.not_false,enP,AV6,Option.getD_none,f3,f13,f15,DJ hk',FD ASR Y6 OE hk',AZW,AYP _ _ [.bool false,.int .i64 0,.sl .nil 0 [],.int .i64 0] rfl,ldG (CX (h ++ x) _),ldV (DL (x := .live 4 [IJ gs[k]]) gv)]
  refine (VR G v gs[k] (hin _ (List.getElem_mem hk')) _).use ?_
  simp -implicitDefEqProofs only [BI,A8,BC,AC,AA,A7,↓reduceIte]
  cases hp:decide (G8 v gs[k] > 0)
  ·simp -implicitDefEqProofs only [AZ,BN,A8,D8,ED,DY,AY,BC,AO,AQ,AL,BD,AX,AC,AA,A7,AU,BH,BF,BQ,AB,CZ,↓reduceIte,Nat.reduceEqDiff,Option.getD_some,Bool.not_false,enP,f15,wrap_succ (show k < 9223372036854775807 by omega)]
   refine ⟨n - 1,by omega,k+1,by omega,f3,?_,f13,f14,rfl,DL gv,_,List.append_assoc _ _ _⟩
   rw [hct,hp]; exact f5
  ·simp -implicitDefEqProofs only [AZ,A8,D8,ED,DX,AY,BC,AO,AQ,AL,BD,AX,AC,AA,A7,AU,BH,BF,BA,BQ,AB,CZ,↓reduceIte,Nat.reduceEqDiff,Option.getD_some,Bool.not_false,enP,f5,f15,wrap_succ (show k < 9223372036854775807 by omega),wrap_succ (show (gs.take k).countP (fun g=>decide (G8 v g > 0)) < 9223372036854775807 by omega)]
   refine ⟨n - 1,by omega,k+1,by omega,f3,?_,f13,f14,rfl,DL gv,_,List.append_assoc _ _ _⟩
   rw [hct,hp]; rfl
 ·have hk' : ¬ k < gs.length:=by simpa using hc
  rw [List.take_of_length_le (by omega)] at f5
  simp -implicitDefEqProofs only [BB,AZ,BM,DC,A8,DZ,EN,EP,CU,AY,BC,AO,AQ,AL,BD,AX,AC,AA,A7,BF,BA,↓reduceIte,Nat.reduceEqDiff,Option.getD_some,Bool.not_false,f5]
  exact ⟨trivial,x,rfl⟩
def RH (m:Mo) (v:Cvr):List Gl:=if FN m v=true then (goals m).filter (fun g => !decide (G8 v g > 0)) else []
theorem ABO (G:Nat→AV) (hG:GOk G) (hT:J5 G) (m:Mo) (v:Cvr) (hm:MoOk m) (hv:CvOk v) (h:Hp):PCall (En G) 29 [.agg (DU m),.agg (EF v)] h (.sl (nm (RH m v)) 3 ((RH m v).map JU)):=by
 refine MS A0O ?_
 refine CG (H:=Hint.none) (enM G) Tryz.func29 rfl (by kernel_rfl) (by kernel_rfl) (Nat.le_of_ble_eq_true (by kernel_rfl)) ?_
 show awp _ _ _ _ _ (EU _ [.tmp 4] _)
 have t:=TwoV.mk' h m v
 have hvb:h.length < (h ++ [ABlk.live 2 [DU m]]).length:=by simp
 simp -implicitDefEqProofs only [BB,AZ,A8,AY,BC,AO,AQ,AL,BD,AX,AC,AA,A7,AU,FV,BA,FK,BO,BR,BG,BV,↓reduceIte,Nat.reduceEqDiff,Option.getD_some,Bool.not_false,enP,bxM,bxV]
 generalize h ++ [ABlk.live 2 [DU m]] ++ [ABlk.live 4 [EF v]]=H at t ⊢
 generalize (h ++ [ABlk.live 2 [DU m]]).length=vb at t hvb ⊢
 simp -implicitDefEqProofs only [AY,AO,AQ,AL,BD,AX,AC,AA,A7,CB,BO,CE,BX,AB,List.map_cons,List.map_nil,List.append_nil,↓reduceIte,Nat.reduceEqDiff,Option.getD_some,Bool.not_false,enP,ldM t.gm,ldV t.gv]
 refine (VE G hG hT m v hm hv _).use ?_
 simp -implicitDefEqProofs only [BI,A8,AY,BC,AO,AQ,AL,BD,AX,AC,AA,A7,H9,AB,FB,↓reduceIte,Option.getD_some,Bool.not_false]
 cases hf:FN m v
 ·simp -implicitDefEqProofs only [BB,AZ,BM,A8,CS,CU,DX,AY,BC,AO,AQ,AL,BD,AX,AC,AA,AU,FV,BA,↓reduceIte,Option.getD_some,Bool.not_false]
  have:RH m v = []:=by unfold RH; rw [hf]; rfl
  rw [this]
  exact ⟨t.hx,outG.nil _ _ _ _⟩
 have hg:=J4 (L9 hf)
 have hgl:=KT hg
 have hin : ∀ g∈goals m,InR v g:=fun g hg'=>WF hf hg'
 simp -implicitDefEqProofs only [BB,AZ,BN,A8,DY,AY,BC,AO,AQ,AL,BD,AX,AC,AA,A7,AU,CB,FV,BA,BO,CE,BX,AB,List.map_cons,List.map_nil,List.append_nil,↓reduceIte,Nat.reduceEqDiff,Option.getD_some,Bool.not_true,Bool.not_false,enP,ldM t.gm]
 refine (ABQ G m hm hg _).use ?_
 have hrn:RH m v=(goals m).filter (fun g => !decide (G8 v g > 0)):=by unfold RH; rw [if_pos hf]
 rw [hrn]
 generalize goals m=gs at hgl hin ⊢
 simp -implicitDefEqProofs only [BP,A8,AY,BC,AO,AQ,AL,BD,AX,AC,AA,A7,AU,BH,BF,DN,AB,↓reduceIte,Option.getD_some,Bool.not_false,enP,AV2,List.length_map]
 refine C9 (fun n F H' => ∃ k,n+k=gs.length∧F 3 = .ptr vb 0 0∧F 13 = .sl (nm gs) 4 (gs.map IJ)∧F 14 = .int .i64 gs.length∧F 15 = .int .i64 (k:Nat)∧H'[vb]? = some (.live 4 [EF v])∧ext h H'∧(∀ b,isB (F 5) b→vb < b)∧outG 3 JU h ((gs.take k).filter (fun g => !decide (G8 v g > 0))) (F 5) H') gs.length ⟨0,by simp,by simp -implicitDefEqProofs only [AA,↓reduceIte,Nat.reduceEqDiff],by simp -implicitDefEqProofs only [AA,↓reduceIte,Nat.reduceEqDiff],by simp -implicitDefEqProofs only [AA,↓reduceIte,Nat.reduceEqDiff],by simp -implicitDefEqProofs only [AA,↓reduceIte]; rfl,t.gv,t.hx,fun b hb=>hb.elim,outG.nil _ _ _ _⟩ ?_
 rintro n F H' ⟨k,hk,f3,f13,f14,f15,gv,he,hlt,ho⟩
 simp -implicitDefEqProofs only [BB,AZ,BI,A8,AY,BC,AO,AQ,AL,BD,AX,AC,AA,A7,BQ,AB,CW,↓reduceIte,Option.getD_some,Bool.not_false,enP,f14,f15]
 refine CQ (fun hc => ?_) (fun hc => ?_)
 ·have hk':k < gs.length:=by simpa using hc
  have hcl:((gs.take k).filter (fun g => !decide (G8 v g > 0))).length≤k:=Nat.le_trans (List.length_filter_le _ _) (by simp; omega)
  have hct:=AIL (fun g => !decide (G8 v g > 0)) gs k hk'
  have ho1:=ho.app [.live 4 [IJ gs[k]]]
  have he1:ext h (H' ++ [.live 4 [IJ gs[k]]]):=he.app _
  simp -implicitDefEqProofs only [BB,BP,AZ,BN,A8,AY,BC,AO,AQ,AL,BD,AX,AC,EZ,AA,A7,CB,FW,BO,EI,BZ,CE,BX,BR,AB,DR,List.map_cons,List.map_nil,List.append_nil,↓reduceIte,Nat.reduceEqDiff,Option.getD_some,Bool.not_false,enP,AV6,Option.getD_none,f3,f13,f15,DJ hk',FD ASR Y6 OE hk',AZW,AYP _ _ [.bool false,.int .i64 0,.sl .nil 0 [],.int .i64 0] rfl,ldG (CX H' _),ldV (DL (x := .live 4 [IJ gs[k]]) gv)]
  refine (VR G v gs[k] (hin _ (List.getElem_mem hk')) _).use ?_
  simp -implicitDefEqProofs only [BI,A8,AY,BC,AO,AQ,AL,BD,AX,AC,AA,A7,H9,AB,FB,↓reduceIte,Option.getD_some,Bool.not_false]
  cases hp:decide (G8 v gs[k] > 0)
  ·obtain ⟨v',H2,ha,ho',hkeep,he',hle,hb'⟩:=ho1.append AWW VO AYH A01 (by omega) (by omega) he1 gs[k]
   simp -implicitDefEqProofs only [FP,FZ,AZ,DX,AY,AO,AQ,AL,BD,AX,AC,AA,A7,BF,ES,BO,BJ,GU,BR,AB,↓reduceIte,Nat.reduceEqDiff,Nat.add_zero,Option.getD_some,Bool.not_false,enP,AAH,ldH (CX H' (.live 4 [IJ gs[k]])),A03]
   refine F9 (v:=v') (h:=H2) ha ?_
   simp -implicitDefEqProofs only [AZ,A8,D8,ED,AY,BC,AO,AQ,AL,BD,AX,AC,AA,A7,AU,BH,BF,BA,BQ,AB,CZ,↓reduceIte,Nat.reduceEqDiff,Option.getD_some,Bool.not_false,enP,f15,wrap_succ (show k < 9223372036854775807 by omega)]
   refine ⟨n - 1,by omega,k+1,by omega,f3,f13,f14,rfl,hkeep _ _ (DL gv) (fun e=>by have:=hlt _ e; omega),he',fun b hbb => ?_,?_⟩
   ·have h1:=hb' b hbb; have h2:=CJ gv; rw [h1]; simp; omega
   ·rw [hct,hp]; exact ho'
  ·simp -implicitDefEqProofs only [AZ,BN,A8,D8,ED,DY,AY,BC,AO,AQ,AL,BD,AX,AC,AA,A7,AU,BH,BF,BQ,AB,CZ,↓reduceIte,Nat.reduceEqDiff,Option.getD_some,Bool.not_true,Bool.not_false,enP,f15,wrap_succ (show k < 9223372036854775807 by omega)]
   refine ⟨n - 1,by omega,k+1,by omega,f3,f13,f14,rfl,DL gv,he1,hlt,?_⟩
   rw [hct,hp]
   simp only [Bool.not_true,Bool.false_eq_true,if_false,List.append_nil]
   exact ho1
 ·have hk' : ¬ k < gs.length:=by simpa using hc
  rw [List.take_of_length_le (by omega)] at ho
  simp -implicitDefEqProofs only [BB,AZ,BM,DC,A8,DZ,EN,EP,CU,AY,BC,AO,AQ,AL,BD,AX,AC,AA,A7,BF,BA,↓reduceIte,Nat.reduceEqDiff,Option.getD_some,Bool.not_false]
  exact ⟨he,ho⟩
end Go.Proofs.YtocilianjfhifaaGreatDoor.Cov
/- Holes, Reached, Gain, Percent of both sides; no condition but the variables that are laid, the bounds on lengths, and cover.tuple's contract. -/
set_option linter.unusedSimpArgs false
set_option maxRecDepth 8000
namespace Go.Proofs.YtocilianjfhifaaGreatDoor.Cov
open Go Go.Proofs Go.Proofs.YtocilianjfhifaaGreatDoor.Sm Go.Proofs.YtocilianjfhifaaGreatDoor.Bins Go.RowKit

theorem AA3 {p:Nat→Bool} : ∀ {l:List Int} {j:Nat},PE p j l=true→∀ z∈l,0≤z
 | [],_,_,_,h=>by cases h
 | n :: ns,j,h,z,hz=>by
   simp only [PE,Bool.and_eq_true] at h
   cases List.mem_cons.1 hz with
   | inl e =>
     subst e
     have:=h.1
     unfold countB IB at this
     simp only [Bool.and_eq_true,decide_eq_true_eq] at this
     exact this.1.1
   | inr e=>exact AA3 h.2 z e
theorem AI8 {l:List Is} {i k:Nat} (h : ∀ x,l[i]? = some x→∀ z∈x.l,0≤z):0≤cellAt l i k:=by
 unfold cellAt
 split
 ·rename_i x hx
  split
  ·rename_i z hz; exact h x hx z (List.mem_of_getElem? hz)
  ·omega
 ·omega
theorem AO7 {m:Mo} {v:Cvr} (hf:FN m v=true) {g:Gl} (hg:g∈goals m):0≤G8 v g:=by
 unfold FN at hf
 simp only [Bool.and_eq_true] at hf
 obtain ⟨⟨⟨⟨_,h1⟩,h2⟩,_⟩,_⟩:=hf
 unfold G8
 rcases ARC hg with ⟨hc,p,hp,hk⟩ | ⟨hc,c,hcc,hk⟩
 ·rw [if_neg (by simp [hc])]
  refine AI8 fun x hx => ?_
  obtain ⟨x',hx',ho⟩:=QI h1 _ _ hp
  rw [hx] at hx'; cases hx'
  unfold okP at ho
  simp only [Bool.and_eq_true] at ho
  exact AA3 ho.2
 ·rw [if_pos hc]
  refine AI8 fun x hx => ?_
  obtain ⟨x',hx',ho⟩:=QI h2 _ _ hcc
  rw [hx] at hx'; cases hx'
  unfold okC at ho
  simp only [Bool.and_eq_true] at ho
  exact AA3 ho.2
theorem APV {z:Int} (h:0≤z):(z == 0) = !decide (z > 0):=by
 rw [Bool.eq_iff_iff]; simp; omega
end Go.Proofs.YtocilianjfhifaaGreatDoor.Cov
/- Gain of both sides, and equal lists of holes; no condition but the variables that are laid, the bounds on lengths, and cover.tuple's contract. -/
set_option linter.unusedSimpArgs false
set_option maxRecDepth 8000
namespace Go.Proofs.YtocilianjfhifaaGreatDoor.Cov
open Go Go.Proofs Go.Proofs.YtocilianjfhifaaGreatDoor.Sm Go.Proofs.YtocilianjfhifaaGreatDoor.Bins Go.RowKit

/-- a model and two coverages in three blocks -/
structure Three (h H:Hp) (m:Mo) (a b:Cvr) (ab bb:Nat):Prop where
 gm:H[h.length]? = some (.live 2 [DU m])
 ga:H[ab]? = some (.live 4 [EF a])
 gb:H[bb]? = some (.live 4 [EF b])
 hx : ∃ x,H=h ++ x
theorem Three.mk' (h:Hp) (m:Mo) (a b:Cvr):Three h (h ++ [.live 2 [DU m]] ++ [.live 4 [EF a]] ++ [.live 4 [EF b]]) m a b (h ++ [ABlk.live 2 [DU m]]).length (h ++ [ABlk.live 2 [DU m]] ++ [ABlk.live 4 [EF a]]).length :=
 ⟨DL (DL (CX _ _)),DL (CX _ _),CX _ _,⟨_,by rw [List.append_assoc,List.append_assoc]⟩⟩
def RY (a b:Cvr) (g:Gl):Bool:=decide (G8 b g > 0) && !decide (G8 a g > 0)
def XH (m:Mo) (a b:Cvr):Nat:=if FN m a=true∧FN m b=true then (goals m).countP (RY a b) else 0
theorem AQ7 (G:Nat→AV) (m:Mo) (a b:Cvr) (hm:MoOk m) (ha:CvOk a) (hb:CvOk b) (h:Hp):PCall (En G) 32 [.agg (DU m),.agg (EF a),.agg (EF b)] h (.int .i64 (XH m a b)):=by
 refine ACalls.pure0 rfl ?_
 refine CG (H:=Hint.none) (enM G) Tryz.func32 rfl (by kernel_rfl) (by kernel_rfl) (Nat.le_of_ble_eq_true (by kernel_rfl)) ?_
 show awp _ _ _ _ _ (EU _ [.tmp 6] _)
 have t:=Three.mk' h m a b
 simp -implicitDefEqProofs only [BB,AZ,A8,AY,BC,AO,AQ,AL,BD,AX,AC,AA,A7,AU,BH,BA,FK,BO,BR,BG,BV,↓reduceIte,Nat.reduceEqDiff,Option.getD_some,Bool.not_false,enP,bxM,bxV]
 generalize h ++ [ABlk.live 2 [DU m]] ++ [ABlk.live 4 [EF a]] ++ [ABlk.live 4 [EF b]]=H at t ⊢
 generalize (h ++ [ABlk.live 2 [DU m]] ++ [ABlk.live 4 [EF a]]).length=bb at t ⊢
 generalize (h ++ [ABlk.live 2 [DU m]]).length=ab at t ⊢
 simp -implicitDefEqProofs only [AY,AO,AQ,AL,BD,AX,AC,AA,A7,CB,CE,BX,AB,List.map_cons,List.map_nil,List.append_nil,↓reduceIte,Option.getD_some,Bool.not_false,ldM t.gm]
 refine (PZ G m hm _).use ?_
 simp -implicitDefEqProofs only [AY,BK,BU,CO,AO,AQ,AL,BD,AX,AC,AA,A7,AU,BH,BF,BQ,AB,EQ,↓reduceIte,Option.getD_some,Bool.not_false,enP,bne]
 cases h1:(FU m == 0)
 ·simp -implicitDefEqProofs only [BB,AZ,BM,BI,A8,CS,CU,DX,AY,BC,BK,BU,CO,F5,AO,AQ,AL,BD,AX,AC,AA,EY,A7,AU,BH,BL,BF,BA,CP,DW,↓reduceIte,Nat.reduceEqDiff,Option.getD_some,Bool.not_false]
  have:FN m a=false:=by unfold FN; rw [h1]; rfl
  exact ⟨by unfold XH; rw [if_neg (by simp [this])]; rfl,t.hx⟩
 simp -implicitDefEqProofs only [BK,BU,CO,EO,AO,AQ,AL,BD,AX,AC,AA,A7,CB,BO,CE,BX,AB,List.map_cons,List.map_nil,List.append_nil,↓reduceIte,Nat.reduceEqDiff,Option.getD_some,Bool.not_true,Bool.not_false,enP,ldM t.gm,ldV t.ga]
 refine (UN G m a hm ha _).use ?_
 simp -implicitDefEqProofs only [AY,BK,BU,CO,EO,AO,AQ,AL,BD,AX,AC,AA,A7,AU,BL,BF,CP,DV,H9,AB,FB,↓reduceIte,Nat.reduceEqDiff,Option.getD_some,Bool.not_false]
 cases hfa:FN m a
 ·simp -implicitDefEqProofs only [BB,AZ,BM,BI,A8,CS,CU,DX,AY,BC,BK,BU,CO,F5,AO,AQ,AL,BD,AX,AC,AA,EY,A7,AU,BH,BL,BA,CP,DW,↓reduceIte,Nat.reduceEqDiff,Option.getD_some,Bool.not_false]
  exact ⟨by unfold XH; rw [if_neg (by simp [hfa])]; rfl,t.hx⟩
 simp -implicitDefEqProofs only [BK,BU,CO,EO,AO,AQ,AL,BD,AX,AC,AA,A7,CB,BO,CE,BX,AB,List.map_cons,List.map_nil,List.append_nil,↓reduceIte,Nat.reduceEqDiff,Option.getD_some,Bool.not_true,Bool.not_false,enP,ldM t.gm,ldV t.gb]
 refine (UN G m b hm hb _).use ?_
 simp -implicitDefEqProofs only [BI,A8,AY,BC,BK,BU,CO,EO,AO,AQ,AL,BD,AX,AC,AA,A7,AU,BL,CP,DV,H9,AB,FB,↓reduceIte,Nat.reduceEqDiff,Option.getD_some,Bool.not_false]
 cases hfb:FN m b
 ·simp -implicitDefEqProofs only [BB,AZ,BM,A8,CS,CU,DX,AY,BC,AO,AQ,AL,BD,AX,AC,AA,AU,BH,BA,↓reduceIte,Option.getD_some,Bool.not_false]
  exact ⟨by unfold XH; rw [if_neg (by simp [hfb])]; rfl,t.hx⟩
 have hg:=J4 (L9 hfa)
 have hgl:=KT hg
 have hia : ∀ g∈goals m,InR a g:=fun g hg'=>WF hfa hg'
 have hib : ∀ g∈goals m,InR b g:=fun g hg'=>WF hfb hg'
 have hpa0 : ∀ g∈goals m,0≤G8 a g:=fun g hg'=>AO7 hfa hg'
 simp -implicitDefEqProofs only [BB,AZ,BN,A8,DY,AY,BC,AO,AQ,AL,BD,AX,AC,AA,A7,AU,CB,BH,BA,BO,CE,BX,AB,List.map_cons,List.map_nil,List.append_nil,↓reduceIte,Nat.reduceEqDiff,Option.getD_some,Bool.not_true,Bool.not_false,enP,ldM t.gm]
 refine (AOQ G m hm hg _).use ?_
 have hrn:XH m a b=(goals m).countP (RY a b):=by unfold XH; rw [if_pos ⟨hfa,hfb⟩]
 rw [hrn]
 generalize goals m=gs at hgl hia hib hpa0 ⊢
 simp -implicitDefEqProofs only [BB,BP,AZ,A8,AY,BC,AO,AQ,AL,BD,AX,AC,AA,A7,AU,BH,BA,↓reduceIte,Option.getD_some,Bool.not_false]
 refine C9 (fun n F H' => ∃ k,n+k=gs.length∧F 4 = .ptr ab 0 0∧F 5 = .ptr bb 0 0∧F 7 = .int .i64 ((gs.take k).countP (RY a b):Nat)∧F 8 = .sl (nm gs) 4 (gs.map IJ)∧F 9 = .int .i64 (k:Nat)∧H'=H) gs.length ⟨0,by simp,by simp -implicitDefEqProofs only [AA,↓reduceIte,Nat.reduceEqDiff],by simp -implicitDefEqProofs only [AA,↓reduceIte,Nat.reduceEqDiff],by simp -implicitDefEqProofs only [AA,↓reduceIte,Nat.reduceEqDiff]; rfl,by simp -implicitDefEqProofs only [AA,↓reduceIte,Nat.reduceEqDiff],by simp -implicitDefEqProofs only [AA,↓reduceIte]; rfl,rfl⟩ ?_
 rintro n F H' ⟨k,hk,f4,f5,f7,f8,f9,rfl⟩
 simp -implicitDefEqProofs only [BB,AZ,BI,A8,AY,BC,AO,AQ,AL,BD,AX,AC,AA,A7,BF,BQ,DN,AB,CW,↓reduceIte,Nat.reduceEqDiff,Option.getD_some,Bool.not_false,enP,AYW,f8,f9,List.length_map]
 refine CQ (fun hc => ?_) (fun hc => ?_)
 ·have hk':k < gs.length:=by simpa using hc
  have hmem:=List.getElem_mem hk'
  have hcl:(gs.take k).countP (RY a b)≤k:=Nat.le_trans (List.countP_le_length) (by simp; omega)
  have hct:=UO (RY a b) gs k hk'
  simp -implicitDefEqProofs only [BB,BP,BN,A8]
  refine ER (by kernel_rfl) ?_
  simp -implicitDefEqProofs only [F7,D9,DT,EC,FH,FC,IE,D7,GM,F6,AO,AA,A7,AU,CB,BH,BO,BQ,BZ,AB,List.map_cons,List.map_nil,List.append_nil,↓reduceIte,Nat.reduceEqDiff,Nat.reduceAdd,Option.getD_some,enP,AV5,f4,f8,f9,DJ hk',FD AWR ADW OE hk',ldV t.ga]
  refine ⟨_,ACC G a gs[k] (hia _ hmem) _,?_⟩
  try simp -implicitDefEqProofs only [F7,D9,DT,EC,FQ,GR,FH,CO,AO,AA,A7,AB,EJ,↓reduceIte,Nat.reduceAdd,Option.getD_some]
  rw [APV (hpa0 _ hmem)]
  cases hpa:decide (G8 a gs[k] > 0)
  ·simp -implicitDefEqProofs only [F7,D9,DT,FQ,GR,SL,FH,FC,IE,D7,GM,F6,CO,AO,AA,A7,AU,CB,BH,BO,BQ,BZ,AB,List.map_cons,List.map_nil,List.append_nil,↓reduceIte,Nat.reduceEqDiff,Nat.reduceAdd,Option.getD_some,Bool.not_false,enP,AV5,f5,f8,f9,DJ hk',FD AWR ADW OE hk',ldV t.gb]
   refine ⟨_,ACC G b gs[k] (hib _ hmem) _,?_⟩
   try simp -implicitDefEqProofs only [F7,D9,DT,E8,EC,I4,BI,A8,AO,AA,A7,AU,BL,CP,DW,AB,EW,↓reduceIte,Nat.reduceEqDiff,Nat.reduceAdd,Option.getD_some]
   cases hpb:decide (G8 b gs[k] > 0)
   ·have hp:RY a b gs[k]=false:=by unfold RY; rw [hpb]; rfl
    simp -implicitDefEqProofs only [AZ,BN,A8,D8,ED,DY,AY,BC,AO,AQ,AL,BD,AX,AC,AA,A7,AU,BH,BF,BA,BQ,AB,CZ,↓reduceIte,Nat.reduceEqDiff,Option.getD_some,Bool.not_false,enP,f9,wrap_succ (show k < 9223372036854775807 by omega)]
    refine ⟨n - 1,by omega,k+1,by omega,f4,f5,?_,f8,rfl,trivial⟩
    rw [hct,hp]; exact f7
   ·have hp:RY a b gs[k]=true:=by unfold RY; rw [hpb,hpa]; rfl
    simp -implicitDefEqProofs only [AZ,A8,D8,ED,DX,AY,BC,AO,AQ,AL,BD,AX,AC,AA,A7,AU,BH,BF,BA,BQ,AB,CZ,↓reduceIte,Nat.reduceEqDiff,Option.getD_some,Bool.not_false,enP,f7,f9,wrap_succ (show k < 9223372036854775807 by omega),wrap_succ (show (gs.take k).countP (RY a b) < 9223372036854775807 by omega)]
    refine ⟨n - 1,by omega,k+1,by omega,f4,f5,?_,f8,rfl,trivial⟩
    rw [hct,hp]; rfl
  ·have hp:RY a b gs[k]=false:=by unfold RY; rw [hpa]; simp
   simp -implicitDefEqProofs only [F7,D9,DT,E8,EC,FQ,GR,ACZ,I4,AZ,BN,BI,A8,D8,ED,DY,AY,BC,CO,AO,AQ,AL,BD,AX,AC,AA,EY,A7,AU,BH,BL,BF,BA,CP,DV,BQ,AB,CZ,↓reduceIte,Nat.reduceEqDiff,Nat.reduceAdd,Option.getD_some,Bool.not_true,Bool.not_false,enP,f9,wrap_succ (show k < 9223372036854775807 by omega)]
   refine ⟨n - 1,by omega,k+1,by omega,f4,f5,?_,f8,rfl,trivial⟩
   rw [hct,hp]; exact f7
 ·have hk' : ¬ k < gs.length:=by simpa using hc
  rw [List.take_of_length_le (by omega)] at f7
  simp -implicitDefEqProofs only [BB,AZ,BM,DC,A8,DZ,EN,EP,CU,AY,BC,AO,AQ,AL,BD,AX,AC,AA,A7,BF,BA,↓reduceIte,Nat.reduceEqDiff,Option.getD_some,Bool.not_false,f7]
  exact ⟨trivial,t.hx⟩
end Go.Proofs.YtocilianjfhifaaGreatDoor.Cov
/- Equal lists of holes; no condition but the bounds on lengths. -/
set_option linter.unusedSimpArgs false
set_option maxRecDepth 8000
namespace Go.Proofs.YtocilianjfhifaaGreatDoor.Cov
open Go Go.Proofs Go.Proofs.YtocilianjfhifaaGreatDoor.Sm Go.Proofs.YtocilianjfhifaaGreatDoor.Bins Go.RowKit

def eqG (a b:Gl):Bool:=(a.cross == b.cross) && ((a.idx:Int) == (b.idx:Int)) && eqL a.bins b.bins
end Go.Proofs.YtocilianjfhifaaGreatDoor.Cov
/- The example of the chapter; no condition but the variables that are laid, and cover.tuple's contract. -/
set_option linter.unusedSimpArgs false
set_option maxRecDepth 8000
namespace Go.Proofs.YtocilianjfhifaaGreatDoor.Cov
open Go Go.Proofs Go.Proofs.YtocilianjfhifaaGreatDoor.Sm Go.Proofs.YtocilianjfhifaaGreatDoor.Bins Go.RowKit

def mkB (name:ByteArray) (kind lo hi:Int):Bin:=⟨name,kind,⟨.full,[⟨lo,hi⟩]⟩,.nil,[]⟩
theorem AZT (a b:Int):KN Tryz.prog 185 [(0,.int .i64 a),(1,.int .i64 b)]=some (.agg [.int .i64 a,.int .i64 b]):=by kernel_rfl
theorem AZF (h:Hp) (a b:Int):FO Tryz.prog false h 118 1 [(0,.agg [.int .i64 a,.int .i64 b])]=some (.sl .full 2 [[.int .i64 a,.int .i64 b]],h):=by kernel_rfl
def A0P:Ex := .mk 2 0 ⟨#[97]⟩ .nil []
theorem A04 (n:Int) (s:ByteArray):KN Tryz.prog 53 [(0,.int .i64 n),(2,.str s)]=some (.agg [.int .i64 n,.int .i64 0,.str s,.sl .nil 0 []]):=by kernel_rfl
theorem A08 (h:Hp):KD Tryz.prog h 25=some (.ptr h.length 0 0,h ++ [.live 2 [[.sl .nil 0 [],.sl .nil 0 []]]]):=JY (row := [.sl .nil 0 [],.sl .nil 0 []]) (by kernel_rfl)
end Go.Proofs.YtocilianjfhifaaGreatDoor.Cov
/- The example of the chapter, checked; no condition but the variables that are laid, and cover.tuple's contract. -/
set_option linter.unusedSimpArgs false
set_option maxRecDepth 8000
namespace Go.Proofs.YtocilianjfhifaaGreatDoor.Cov
open Go Go.Proofs Go.Proofs.YtocilianjfhifaaGreatDoor.Sm Go.Proofs.YtocilianjfhifaaGreatDoor.Bins Go.RowKit

theorem AX2 (h:Hp) (xs:List (List AV)):FO Tryz.prog false h 26 1 [(0,.sl .full 1 xs)]=some (.sl .full 1 [[.sl .full 1 xs]],h):=by kernel_rfl
end Go.Proofs.YtocilianjfhifaaGreatDoor.Cov
/- The law MergeMeasures; no condition but the variables that are laid, the bounds on lengths, and cover.tuple's contract. -/
set_option linter.unusedSimpArgs false
set_option maxRecDepth 8000
namespace Go.Proofs.YtocilianjfhifaaGreatDoor.Cov
open Go Go.Proofs Go.Proofs.YtocilianjfhifaaGreatDoor.Sm Go.Proofs.YtocilianjfhifaaGreatDoor.Bins Go.RowKit

theorem AKW {m:Mo} (hg:Good m) : ∀ g∈goals m,g.bins.length≤1048576:=by
 have hP : ∀ (i:Nat) (p:Pt) (k:Nat),∀ g∈gPk i p k,g.bins.length≤1048576:=by
  intro i p k
  induction k with
  | zero=>intro g h; cases h
  | succ k ih =>
    intro g h
    simp only [gPk,List.mem_append] at h
    rcases h with h | h
    ·exact ih g h
    ·split at h
     ·simp at h; subst h; exact Nat.le_of_ble_eq_true rfl
     ·cases h
 have hPs : ∀ i:Nat,∀ g∈gP m i,g.bins.length≤1048576:=by
  intro i
  induction i with
  | zero=>intro g h; cases h
  | succ i ih =>
    intro g h
    simp only [gP,List.mem_append] at h
    rcases h with h | h
    ·exact ih g h
    ·split at h
     ·exact hP _ _ _ g h
     ·cases h
 have hC : ∀ (i:Nat) (c:Cr) (k:Nat),c∈m.crs→∀ g∈gCk m i c k,g.bins.length≤1048576:=by
  intro i c k hc
  induction k with
  | zero=>intro g h; cases h
  | succ k ih =>
    intro g h
    simp only [gCk,List.mem_append] at h
    rcases h with h | h
    ·exact ih g h
    ·split at h
     ·simp at h; subst h
      show (NP (szs m c.pts) k).length≤1048576
      unfold NP
      rw [List.length_map,NF,J3]
      have:=(hg.crs c hc).four
      omega
     ·cases h
 have hCs : ∀ i:Nat,∀ g∈gC m i,g.bins.length≤1048576:=by
  intro i
  induction i with
  | zero=>intro g h; exact hPs _ g h
  | succ i ih =>
    intro g h
    simp only [gC,List.mem_append] at h
    rcases h with h | h
    ·exact ih g h
    ·split at h
     ·rename_i c hc
      exact hC _ _ _ (List.mem_of_getElem? hc) g h
     ·cases h
 exact hCs _
end Go.Proofs.YtocilianjfhifaaGreatDoor.Cov
