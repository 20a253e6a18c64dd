/- Part 8 of the proof (N7, N8, N9, N10, N11, N12, N13, N14); no condition. -/
import Derived.Test.YtocilianjfhifaaGreatDoorV7
set_option linter.unusedVariables false
/- The count of a goal, and what is made of goals, on both sides; no condition but the bounds on lengths, and cover.tuple's contract. -/
set_option linter.unusedSimpArgs false
set_option maxRecDepth 8000
namespace Go.Proofs.YtocilianjfhifaaGreatDoor.Cov
open Go Go.Proofs Go.Proofs.YtocilianjfhifaaGreatDoor.Sm Go.Proofs.YtocilianjfhifaaGreatDoor.Bins Go.RowKit

def cellAt (l:List Is) (i k:Nat):Int:=match l[i]? with
 | some x=>(match x.l[k]? with | some z=>z | none=>0)
 | none=>0
def F8 (v:Cvr) (g:Gl):Int:=if g.cross then cellAt v.crs g.idx g.at_ else cellAt v.pts g.idx g.at_
def InL (l:List Is) (i k:Nat):Prop := ∃ hi:i < l.length,k < (l[i]'hi).l.length
def InR (v:Cvr) (g:Gl):Prop:=if g.cross=true then InL v.crs g.idx g.at_ else InL v.pts g.idx g.at_
theorem QO {l:List Is} {i k:Nat} (h:InL l i k) : ∃ (hi:i < l.length) (hk:k < l[i].l.length),cellAt l i k=l[i].l[k]:=by
 obtain ⟨hi,hk⟩:=h
 refine ⟨hi,hk,?_⟩
 unfold cellAt
 rw [List.getElem?_eq_getElem hi]
 simp only
 rw [List.getElem?_eq_getElem hk]
def ARJ (m:Mo) (g:Gl):Prop:=(g.cross=false∧∃ p,m.pts[g.idx]? = some p∧g.at_ < p.bins.length)∨(g.cross=true∧∃ c,m.crs[g.idx]? = some c∧g.at_ < FM (szs m c.pts))
theorem AAI {i:Nat} {p:Pt} : ∀ {k:Nat} {g:Gl},g∈gPk i p k→g.cross=false∧g.idx=i∧g.at_ < k
 | 0,g,h=>by cases h
 | k+1,g,h=>by
   simp only [gPk,List.mem_append] at h
   rcases h with h | h
   ·obtain ⟨h1,h2,h3⟩:=AAI h; exact ⟨h1,h2,by omega⟩
   ·split at h
    ·simp at h; subst h; exact ⟨rfl,rfl,Nat.lt_succ_self k⟩
    ·cases h
theorem AUU {m:Mo} : ∀ {i:Nat} {g:Gl},g∈gP m i→ARJ m g
 | 0,g,h=>by cases h
 | i+1,g,h=>by
   simp only [gP,List.mem_append] at h
   rcases h with h | h
   ·exact AUU h
   ·split at h
    ·rename_i p hp
     obtain ⟨h1,h2,h3⟩:=AAI h
     exact .inl ⟨h1,p,by rw [h2]; exact hp,h3⟩
    ·cases h
theorem AAJ {m:Mo} {i:Nat} {c:Cr} : ∀ {k:Nat} {g:Gl},g∈gCk m i c k→g.cross=true∧g.idx=i∧g.at_ < k
 | 0,g,h=>by cases h
 | k+1,g,h=>by
   simp only [gCk,List.mem_append] at h
   rcases h with h | h
   ·obtain ⟨h1,h2,h3⟩:=AAJ h; exact ⟨h1,h2,by omega⟩
   ·split at h
    ·simp at h; subst h; exact ⟨rfl,rfl,Nat.lt_succ_self k⟩
    ·cases h
theorem AP2 {m:Mo} : ∀ {i:Nat} {g:Gl},g∈gC m i→ARJ m g
 | 0,g,h=>AUU h
 | i+1,g,h=>by
   simp only [gC,List.mem_append] at h
   rcases h with h | h
   ·exact AP2 h
   ·split at h
    ·rename_i c hc
     obtain ⟨h1,h2,h3⟩:=AAJ h
     exact .inr ⟨h1,c,by rw [h2]; exact hc,h3⟩
    ·cases h
theorem O5 {α:Type} {ok:α→Is→Bool} : ∀ {ws:List α} {xs:List Is},J2 ok ws xs=true→∀ (i:Nat) (a:α),ws[i]? = some a→∃ x,xs[i]? = some x∧ok a x=true
 | [],[],_,i,a,h=>by simp at h
 | w :: ws,x :: xs,h,i,a,ha=>by
   simp only [J2,Bool.and_eq_true] at h
   cases i with
   | zero=>simp at ha; subst ha; exact ⟨x,rfl,h.1⟩
   | succ i=>exact O5 h.2 i a (by simpa using ha)
 | [],_ :: _,h,_,_,_=>by cases h
 | _ :: _,[],h,_,_,_=>by cases h
theorem APT {l:List Is} {i k n:Nat} {x:Is} (hx:l[i]? = some x) (hn:x.l.length=n) (hk:k < n):InL l i k:=by
 obtain ⟨hi,e⟩:=List.getElem?_eq_some_iff.1 hx
 exact ⟨hi,by rw [e]; omega⟩
theorem UU {m:Mo} {v:Cvr} (hf:E9 m v=true) {g:Gl} (hg:g∈goals m):InR v g:=by
 unfold E9 at hf
 simp only [Bool.and_eq_true] at hf
 obtain ⟨⟨⟨⟨_,h1⟩,h2⟩,_⟩,_⟩:=hf
 unfold InR
 rcases AP2 hg with ⟨hc,p,hp,hk⟩ | ⟨hc,c,hcc,hk⟩
 ·rw [if_neg (by simp [hc])]
  obtain ⟨x,hx,ho⟩:=O5 h1 _ _ hp
  unfold okP at ho
  simp only [Bool.and_eq_true,beq_iff_eq] at ho
  exact APT hx ho.1 hk
 ·rw [if_pos hc]
  obtain ⟨x,hx,ho⟩:=O5 h2 _ _ hcc
  unfold okC at ho
  simp only [Bool.and_eq_true,beq_iff_eq] at ho
  exact APT hx ho.1 hk
theorem AU1 (g:Gl):(G7 g)[0]? = some (.bool g.cross):=rfl
theorem AU0 (g:Gl):(G7 g)[1]? = some (.int .i64 (g.idx:Int)):=rfl
theorem AUZ (g:Gl):(G7 g)[3]? = some (.int .i64 (g.at_:Int)):=rfl
theorem bxG (h:Hp) (g:Gl):OH h (.agg (G7 g))=some (.ptr h.length 0 0,h ++ [.live 4 [G7 g]]):=rfl
theorem UA (G:Nat→AV) (v:Cvr) (g:Gl) (hi:InR v g) (h:Hp):PCall (En G) 82 [.agg (G7 g),.agg (D5 v)] h (.bool (decide (F8 v g > 0))):=by
 refine ACalls.pure0 rfl ?_
 refine BX (H:=Hint.none) (enM G) Tryz.func82 rfl (by kernel_rfl) (by kernel_rfl) (Nat.le_of_ble_eq_true (by kernel_rfl)) ?_
 show awp _ _ _ _ _ (EJ _ [.tmp 4] _)
 have gg:(h ++ [ABlk.live 4 [G7 g]] ++ [ABlk.live 4 [D5 v]])[h.length]? = some (.live 4 [G7 g]):=C9 (CQ _ _)
 have gv:=CQ (h ++ [ABlk.live 4 [G7 g]]) (.live 4 [D5 v])
 have hx : ∃ x,h ++ [ABlk.live 4 [G7 g]] ++ [ABlk.live 4 [D5 v]]=h ++ x:=⟨_,List.append_assoc _ _ _⟩
 simp -implicitDefEqProofs only [A8,AX,AZ,AU,A9,AL,AO,AJ,BA,AR,AC,AA,AY,AQ,BI,A7,EW,BL,BG,BO,AB,BC,BP,↓reduceIte,Nat.reduceEqDiff,Nat.add_zero,Option.getD_some,Bool.not_false,enP,YY,YX,bxG,bxV]
 generalize h ++ [ABlk.live 4 [G7 g]] ++ [ABlk.live 4 [D5 v]]=H at gg gv hx ⊢
 generalize (h ++ [ABlk.live 4 [G7 g]]).length=vb at gv ⊢
 have l0:D7 Tryz.prog H 4 (.ptr h.length 0 0)=some (.bool g.cross):=by rw [DX ag4 gg (row:=G7 g) rfl,AU1]
 have l1:D7 Tryz.prog H 3 (.ptr h.length 0 1)=some (.int .i64 (g.idx:Int)):=by rw [DX ag3 gg (row:=G7 g) rfl,AU0]
 have l3:D7 Tryz.prog H 3 (.ptr h.length 0 3)=some (.int .i64 (g.at_:Int)):=by rw [DX ag3 gg (row:=G7 g) rfl,AUZ]
 have lv0:D7 Tryz.prog H 26 (.ptr vb 0 0)=some (.sl v.pm 1 (v.pts.map GG)):=by rw [DX QR gv (row:=D5 v) rfl,AHG]
 have lv1:D7 Tryz.prog H 26 (.ptr vb 0 1)=some (.sl v.cm 1 (v.crs.map GG)):=by rw [DX QR gv (row:=D5 v) rfl,AHF]
 simp -implicitDefEqProofs only [BF,AZ,A9,AC,AA,AY,AB,↓reduceIte,l0]
 unfold InR at hi
 cases hc:g.cross
 ·rw [if_neg (by simp [hc])] at hi
  obtain ⟨h1,h2,h3⟩:=QO hi
  have hcg:F8 v g=v.pts[g.idx].l[g.at_]:=by unfold F8; rw [hc,if_neg (by simp),h3]
  simp -implicitDefEqProofs only [A8,BK,AZ,DL]
  refine EG (by kernel_rfl) ?_
  simp -implicitDefEqProofs only [FJ,DT,CZ,EO,DV,GM,EN,GK,DW,DN,BJ,AZ,CK,AL,AA,AY,AQ,BD,BL,BN,BG,BU,AB,EK,↓reduceIte,Nat.reduceEqDiff,Nat.reduceAdd,Nat.add_zero,Nat.zero_add,Option.getD_some,enP,PK,NA,IL,VQ,YX,ALV,l1,l3,lv0,CW h1,CP KA h1,LH,CW h2,CP ag3 h2,encI0]
  exact ⟨by rw [hcg],hx⟩
 ·rw [if_pos hc] at hi
  obtain ⟨h1,h2,h3⟩:=QO hi
  have hcg:F8 v g=v.crs[g.idx].l[g.at_]:=by unfold F8; rw [hc,if_pos rfl,h3]
  simp -implicitDefEqProofs only [A8,DI]
  refine EG (by kernel_rfl) ?_
  simp -implicitDefEqProofs only [FJ,DT,CZ,EO,DV,GM,EN,GK,DW,DN,BJ,AZ,CJ,CK,AL,AA,AY,AQ,BD,BL,BN,BG,BU,AB,EK,↓reduceIte,Nat.reduceEqDiff,Nat.reduceAdd,Nat.add_zero,Nat.zero_add,Option.getD_some,enP,PK,ME,IL,VQ,YX,ALV,l1,l3,lv1,CW h1,CP KA h1,LH,CW h2,CP ag3 h2,encI0]
  exact ⟨by rw [hcg],hx⟩
theorem AA1 (G:Nat→AV) (v:Cvr) (g:Gl) (hi:InR v g) (h:Hp):PCall (En G) 83 [.agg (D5 v),.agg (G7 g)] h (.int .i64 (F8 v g)):=by
 refine ACalls.pure0 rfl ?_
 refine BX (H:=Hint.none) (enM G) Tryz.func83 rfl (by kernel_rfl) (by kernel_rfl) (Nat.le_of_ble_eq_true (by kernel_rfl)) ?_
 show awp _ _ _ _ _ (EJ _ [.tmp 4] _)
 have gv:(h ++ [ABlk.live 4 [D5 v]] ++ [ABlk.live 4 [G7 g]])[h.length]? = some (.live 4 [D5 v]):=C9 (CQ _ _)
 have gg:=CQ (h ++ [ABlk.live 4 [D5 v]]) (.live 4 [G7 g])
 have hx : ∃ x,h ++ [ABlk.live 4 [D5 v]] ++ [ABlk.live 4 [G7 g]]=h ++ x:=⟨_,List.append_assoc _ _ _⟩
 simp -implicitDefEqProofs only [A8,AX,AZ,AU,A9,AL,AO,AJ,BA,AR,AC,AA,AY,AQ,BD,A7,EW,BL,BG,BO,AB,BC,BP,↓reduceIte,Nat.reduceEqDiff,Nat.add_zero,Option.getD_some,Bool.not_false,enP,YY,AEW,bxG,bxV]
 generalize h ++ [ABlk.live 4 [D5 v]] ++ [ABlk.live 4 [G7 g]]=H at gg gv hx ⊢
 generalize (h ++ [ABlk.live 4 [D5 v]]).length=gb at gg ⊢
 have l0:D7 Tryz.prog H 4 (.ptr gb 0 0)=some (.bool g.cross):=by rw [DX ag4 gg (row:=G7 g) rfl,AU1]
 have l1:D7 Tryz.prog H 3 (.ptr gb 0 1)=some (.int .i64 (g.idx:Int)):=by rw [DX ag3 gg (row:=G7 g) rfl,AU0]
 have l3:D7 Tryz.prog H 3 (.ptr gb 0 3)=some (.int .i64 (g.at_:Int)):=by rw [DX ag3 gg (row:=G7 g) rfl,AUZ]
 have lv0:D7 Tryz.prog H 26 (.ptr h.length 0 0)=some (.sl v.pm 1 (v.pts.map GG)):=by rw [DX QR gv (row:=D5 v) rfl,AHG]
 have lv1:D7 Tryz.prog H 26 (.ptr h.length 0 1)=some (.sl v.cm 1 (v.crs.map GG)):=by rw [DX QR gv (row:=D5 v) rfl,AHF]
 simp -implicitDefEqProofs only [BF,AZ,A9,AC,AA,AY,AB,↓reduceIte,l0]
 unfold InR at hi
 cases hc:g.cross
 ·rw [if_neg (by simp [hc])] at hi
  obtain ⟨h1,h2,h3⟩:=QO hi
  have hcg:F8 v g=v.pts[g.idx].l[g.at_]:=by unfold F8; rw [hc,if_neg (by simp),h3]
  simp -implicitDefEqProofs only [A8,BK,AZ,DL]
  refine EG (by kernel_rfl) ?_
  simp -implicitDefEqProofs only [FJ,DT,CZ,EO,DV,GM,EN,DW,DN,BJ,AZ,CK,AL,AA,AY,BL,BG,BU,AB,↓reduceIte,Nat.reduceEqDiff,Nat.reduceAdd,Nat.add_zero,Nat.zero_add,Option.getD_some,enP,PK,NA,IL,VQ,AEW,ALU,l1,l3,lv0,CW h1,CP KA h1,LH,CW h2,CP ag3 h2,encI0]
  exact ⟨by rw [hcg],hx⟩
 ·rw [if_pos hc] at hi
  obtain ⟨h1,h2,h3⟩:=QO hi
  have hcg:F8 v g=v.crs[g.idx].l[g.at_]:=by unfold F8; rw [hc,if_pos rfl,h3]
  simp -implicitDefEqProofs only [A8,DI]
  refine EG (by kernel_rfl) ?_
  simp -implicitDefEqProofs only [FJ,DT,CZ,EO,DV,GM,EN,DW,DN,BJ,AZ,CJ,CK,AL,AA,AY,BL,BG,BU,AB,↓reduceIte,Nat.reduceEqDiff,Nat.reduceAdd,Nat.add_zero,Nat.zero_add,Option.getD_some,enP,PK,ME,IL,VQ,AEW,ALU,l1,l3,lv1,CW h1,CP KA h1,LH,CW h2,CP ag3 h2,encI0]
  exact ⟨by rw [hcg],hx⟩
end Go.Proofs.YtocilianjfhifaaGreatDoor.Cov
/- Goal, Reached, Holes, Gain of the program; no condition but the variables that are laid, the bounds on lengths, and cover.tuple's contract. -/
set_option linter.unusedSimpArgs false
set_option maxRecDepth 8000
namespace Go.Proofs.YtocilianjfhifaaGreatDoor.Cov
open Go Go.Proofs Go.Proofs.YtocilianjfhifaaGreatDoor.Sm Go.Proofs.YtocilianjfhifaaGreatDoor.Bins Go.RowKit

theorem ANP (g:Gl):(G7 g).all AV.leaf=true:=rfl
theorem AQJ (g:Gl):(I8 g).all AV.frozen=true:=rfl
theorem AYN (h:Hp):JN Tryz.prog h 108=some (.ptr h.length 0 0,h ++ [.live 4 [[.bool false,.int .i64 0,.sl .nil 0 [],.int .i64 0]]]):=JC (row := [.bool false,.int .i64 0,.sl .nil 0 [],.int .i64 0]) (by kernel_rfl)
theorem AXG (h:Hp) (g:Gl) (row:List AV) (hr:row.length=4):FQ Tryz.prog (h ++ [.live 4 [row]]) 108 (.ptr h.length 0 0) (.agg (G7 g))=some (h ++ [.live 4 [G7 g]]):=by
 rw [M5 (TB (ANP g)) (by rw [MQ]; exact XK) (by rw [MQ,hr]; exact Nat.le_refl _)]
 have:splice row 0 (G7 g)=G7 g:=by unfold splice; simp [MQ,hr]
 rw [this]
theorem ldG {h:Hp} {b:Nat} {g:Gl} (hb:h[b]? = some (.live 4 [G7 g])):D7 Tryz.prog h 108 (.ptr b 0 0)=some (.agg (G7 g)):=by
 rw [IK ARF XK hb rfl (by rw [MQ]; exact Nat.le_refl 4)]; rfl
theorem ldH {h:Hp} {b:Nat} {g:Gl} (hb:h[b]? = some (.live 4 [G7 g])):D7 Tryz.prog h 106 (.ptr b 0 0)=some (.agg (I8 g)):=by
 rw [IK AIC TY hb rfl (by rw [MQ]; omega)]; rfl
theorem AZV (h:Hp) (g:Gl):FC Tryz.prog false h 32 1 [(0,.agg (I8 g))]=some (.sl .full 3 [I8 g],h):=by
 have h1:Tryz.prog.underlying 32=some (.slice 106):=AVI
 unfold FC
 simp only [h1,TY,AW8]
 have h2:R7 3 0 [(0,AV.agg (I8 g))]=some [I8 g]:=rfl
 simp [h2,AQJ]
theorem KS {m:Mo} {v:Cvr} (hf:E9 m v=true):FH m=0:=by
 unfold E9 at hf
 simp only [Bool.and_eq_true,beq_iff_eq] at hf
 exact hf.1.1.1.1
def PZ (m:Mo) (v:Cvr):Nat:=if E9 m v=true then (goals m).countP (fun g=>decide (F8 v g > 0)) else 0
theorem SL {α:Type} (p:α→Bool) (xs:List α) (k:Nat) (hk:k < xs.length):(xs.take (k+1)).countP p=(xs.take k).countP p+(if p xs[k]=true then 1 else 0):=by
 rw [List.take_succ_eq_append_getElem hk,List.countP_append]; simp
theorem AHA {α:Type} (p:α→Bool) (xs:List α) (k:Nat) (hk:k < xs.length):(xs.take (k+1)).filter p=(xs.take k).filter p ++ (if p xs[k]=true then [xs[k]] else []):=by
 rw [List.take_succ_eq_append_getElem hk,List.filter_append]; simp [List.filter_cons]
theorem ZO (G:Nat→AV) (hG:GOk G) (hT:I4 G) (m:Mo) (v:Cvr) (hm:MoOk m) (hv:CvOk v) (h:Hp):PCall (En G) 24 [.agg (DC m),.agg (D5 v)] h (.int .i64 (PZ m v)):=by
 refine ACalls.pure0 rfl ?_
 refine BX (H:=Hint.none) (enM G) Tryz.func24 rfl (by kernel_rfl) (by kernel_rfl) (Nat.le_of_ble_eq_true (by kernel_rfl)) ?_
 show awp _ _ _ _ _ (EJ _ [.tmp 4] _)
 have t:=TwoV.mk' h m v
 simp -implicitDefEqProofs only [A8,AX,AZ,AU,A9,AL,AO,AJ,BA,AR,AC,AA,AY,AQ,BD,A7,EW,BL,BO,BC,BP,↓reduceIte,Nat.reduceEqDiff,Option.getD_some,Bool.not_false,enP,bxM,bxV]
 generalize h ++ [ABlk.live 2 [DC m]] ++ [ABlk.live 4 [D5 v]]=H at t ⊢
 generalize (h ++ [ABlk.live 2 [DC m]]).length=vb at t ⊢
 simp -implicitDefEqProofs only [AU,AL,AO,AJ,BA,AR,AC,AA,AY,BS,BL,BV,BR,AB,List.map_cons,List.map_nil,List.append_nil,↓reduceIte,Nat.reduceEqDiff,Option.getD_some,Bool.not_false,enP,ldM t.gm,ldV t.gv]
 refine (TP G hG hT m v hm hv _).use ?_
 simp -implicitDefEqProofs only [BF,AZ,AU,A9,AL,AO,AJ,BA,AR,AC,AA,AY,F9,AB,ER,↓reduceIte,Option.getD_some,Bool.not_false]
 cases hf:E9 m v
 ·simp -implicitDefEqProofs only [A8,AX,BJ,AZ,CJ,CK,DI,AU,A9,AL,AO,AJ,BA,AR,AC,AA,AQ,BD,A7,↓reduceIte,Option.getD_some,Bool.not_false]
  exact ⟨by unfold PZ; rw [hf]; rfl,t.hx⟩
 have hg:=JF (KS hf)
 have hgl:=J4 hg
 have hin : ∀ g∈goals m,InR v g:=fun g hg'=>UU hf hg'
 simp -implicitDefEqProofs only [A8,AX,BK,AZ,DL,AU,A9,AL,AO,AJ,BA,AR,AC,AA,AY,AQ,BS,BD,A7,BL,BV,BR,AB,List.map_cons,List.map_nil,List.append_nil,↓reduceIte,Nat.reduceEqDiff,Option.getD_some,Bool.not_true,Bool.not_false,enP,ldM t.gm]
 refine (AAD G m hm hg _).use ?_
 have hrn:PZ m v=(goals m).countP (fun g=>decide (F8 v g > 0)):=by unfold PZ; rw [if_pos hf]
 rw [hrn]
 generalize goals m=gs at hgl hin ⊢
 simp -implicitDefEqProofs only [BM,AZ,AU,A9,AL,AO,AJ,BA,AR,AC,AA,AY,AQ,BD,BB,C8,AB,↓reduceIte,Option.getD_some,Bool.not_false,enP,AUO,List.length_map]
 refine CS (fun n F H' => ∃ k,n+k=gs.length∧F 3 = .ptr vb 0 0∧F 5 = .int .i64 ((gs.take k).countP (fun g=>decide (F8 v g > 0)):Nat)∧F 13 = .sl (nm gs) 4 (gs.map G7)∧F 14 = .int .i64 gs.length∧F 15 = .int .i64 (k:Nat)∧H'[vb]? = some (.live 4 [D5 v])∧∃ x,H'=h ++ x) gs.length ⟨0,by simp,by simp -implicitDefEqProofs only [AA,↓reduceIte,Nat.reduceEqDiff],by simp -implicitDefEqProofs only [AA,↓reduceIte,Nat.reduceEqDiff]; rfl,by simp -implicitDefEqProofs only [AA,↓reduceIte,Nat.reduceEqDiff],by simp -implicitDefEqProofs only [AA,↓reduceIte,Nat.reduceEqDiff],by simp -implicitDefEqProofs only [AA,↓reduceIte]; rfl,t.gv,t.hx⟩ ?_
 rintro n F H' ⟨k,hk,f3,f5,f13,f14,f15,gv,x,rfl⟩
 simp -implicitDefEqProofs only [A8,AX,BF,AZ,AU,A9,AL,AO,AJ,BA,AR,AC,AA,AY,BN,AB,CO,↓reduceIte,Option.getD_some,Bool.not_false,enP,f14,f15]
 refine CG (fun hc => ?_) (fun hc => ?_)
 ·have hk':k < gs.length:=by simpa using hc
  have hcl:(gs.take k).countP (fun g=>decide (F8 v g > 0))≤k:=Nat.le_trans (List.countP_le_length) (by simp; omega)
  have hct:=SL (fun g=>decide (F8 v g > 0)) gs k hk'
  simp -implicitDefEqProofs only [A8,BM,AX,BK,AZ,AU,A9,AL,AO,AJ,BA,AR,AC,EQ,AA,AY,BS,FL,BL,EC,BU,BV,BR,BO,AB,DF,List.map_cons,List.map_nil,List.append_nil,↓reduceIte,Nat.reduceEqDiff,Option.getD_some,Bool.not_false,enP,AUS,Option.getD_none,f3,f13,f15,CW hk',ES ARF XK MQ hk',AYN,AXG _ _ [.bool false,.int .i64 0,.sl .nil 0 [],.int .i64 0] rfl,ldG (CQ (h ++ x) _),ldV (C9 (x := .live 4 [G7 gs[k]]) gv)]
  refine (UA G v gs[k] (hin _ (List.getElem_mem hk')) _).use ?_
  simp -implicitDefEqProofs only [BF,AZ,A9,AC,AA,AY,↓reduceIte]
  cases hp:decide (F8 v gs[k] > 0)
  ·simp -implicitDefEqProofs only [AX,BK,AZ,DU,DZ,DL,AU,A9,AL,AO,AJ,BA,AR,AC,AA,AY,AQ,BD,BB,BN,AB,CR,↓reduceIte,Nat.reduceEqDiff,Option.getD_some,Bool.not_false,enP,f15,CB (show k < 9223372036854775807 by omega)]
   refine ⟨n - 1,by omega,k+1,by omega,f3,?_,f13,f14,rfl,C9 gv,_,List.append_assoc _ _ _⟩
   rw [hct,hp]; exact f5
  ·simp -implicitDefEqProofs only [AX,AZ,DU,DZ,DI,AU,A9,AL,AO,AJ,BA,AR,AC,AA,AY,AQ,BD,BB,A7,BN,AB,CR,↓reduceIte,Nat.reduceEqDiff,Option.getD_some,Bool.not_false,enP,f5,f15,CB (show k < 9223372036854775807 by omega),CB (show (gs.take k).countP (fun g=>decide (F8 v g > 0)) < 9223372036854775807 by omega)]
   refine ⟨n - 1,by omega,k+1,by omega,f3,?_,f13,f14,rfl,C9 gv,_,List.append_assoc _ _ _⟩
   rw [hct,hp]; rfl
 ·have hk' : ¬ k < gs.length:=by simpa using hc
  rw [List.take_of_length_le (by omega)] at f5
  simp -implicitDefEqProofs only [A8,AX,BJ,CU,AZ,DR,EB,EF,CK,AU,A9,AL,AO,AJ,BA,AR,AC,AA,AY,BB,A7,↓reduceIte,Nat.reduceEqDiff,Option.getD_some,Bool.not_false,f5]
  exact ⟨trivial,x,rfl⟩
def P9 (m:Mo) (v:Cvr):List Gl:=if E9 m v=true then (goals m).filter (fun g => !decide (F8 v g > 0)) else []
theorem AAB (G:Nat→AV) (hG:GOk G) (hT:I4 G) (m:Mo) (v:Cvr) (hm:MoOk m) (hv:CvOk v) (h:Hp):PCall (En G) 29 [.agg (DC m),.agg (D5 v)] h (.sl (nm (P9 m v)) 3 ((P9 m v).map I8)):=by
 refine LA AZG ?_
 refine BX (H:=Hint.none) (enM G) Tryz.func29 rfl (by kernel_rfl) (by kernel_rfl) (Nat.le_of_ble_eq_true (by kernel_rfl)) ?_
 show awp _ _ _ _ _ (EJ _ [.tmp 4] _)
 have t:=TwoV.mk' h m v
 have hvb:h.length < (h ++ [ABlk.live 2 [DC m]]).length:=by simp
 simp -implicitDefEqProofs only [A8,AX,AZ,AU,A9,AL,AO,AJ,BA,AR,AC,AA,AY,AQ,EX,A7,EW,BL,BO,BC,BP,↓reduceIte,Nat.reduceEqDiff,Option.getD_some,Bool.not_false,enP,bxM,bxV]
 generalize h ++ [ABlk.live 2 [DC m]] ++ [ABlk.live 4 [D5 v]]=H at t ⊢
 generalize (h ++ [ABlk.live 2 [DC m]]).length=vb at t hvb ⊢
 simp -implicitDefEqProofs only [AU,AL,AO,AJ,BA,AR,AC,AA,AY,BS,BL,BV,BR,AB,List.map_cons,List.map_nil,List.append_nil,↓reduceIte,Nat.reduceEqDiff,Option.getD_some,Bool.not_false,enP,ldM t.gm,ldV t.gv]
 refine (TP G hG hT m v hm hv _).use ?_
 simp -implicitDefEqProofs only [BF,AZ,AU,A9,AL,AO,AJ,BA,AR,AC,AA,AY,F9,AB,ER,↓reduceIte,Option.getD_some,Bool.not_false]
 cases hf:E9 m v
 ·simp -implicitDefEqProofs only [A8,AX,BJ,AZ,CJ,CK,DI,AU,A9,AL,AO,AJ,BA,AR,AC,AA,AQ,EX,A7,↓reduceIte,Option.getD_some,Bool.not_false]
  have:P9 m v = []:=by unfold P9; rw [hf]; rfl
  rw [this]
  exact ⟨t.hx,outG.nil _ _ _ _⟩
 have hg:=JF (KS hf)
 have hgl:=J4 hg
 have hin : ∀ g∈goals m,InR v g:=fun g hg'=>UU hf hg'
 simp -implicitDefEqProofs only [A8,AX,BK,AZ,DL,AU,A9,AL,AO,AJ,BA,AR,AC,AA,AY,AQ,BS,EX,A7,BL,BV,BR,AB,List.map_cons,List.map_nil,List.append_nil,↓reduceIte,Nat.reduceEqDiff,Option.getD_some,Bool.not_true,Bool.not_false,enP,ldM t.gm]
 refine (AAD G m hm hg _).use ?_
 have hrn:P9 m v=(goals m).filter (fun g => !decide (F8 v g > 0)):=by unfold P9; rw [if_pos hf]
 rw [hrn]
 generalize goals m=gs at hgl hin ⊢
 simp -implicitDefEqProofs only [BM,AZ,AU,A9,AL,AO,AJ,BA,AR,AC,AA,AY,AQ,BD,BB,C8,AB,↓reduceIte,Option.getD_some,Bool.not_false,enP,AUO,List.length_map]
 refine CS (fun n F H' => ∃ k,n+k=gs.length∧F 3 = .ptr vb 0 0∧F 13 = .sl (nm gs) 4 (gs.map G7)∧F 14 = .int .i64 gs.length∧F 15 = .int .i64 (k:Nat)∧H'[vb]? = some (.live 4 [D5 v])∧ext h H'∧(∀ b,isB (F 5) b→vb < b)∧outG 3 I8 h ((gs.take k).filter (fun g => !decide (F8 v g > 0))) (F 5) H') gs.length ⟨0,by simp,by simp -implicitDefEqProofs only [AA,↓reduceIte,Nat.reduceEqDiff],by simp -implicitDefEqProofs only [AA,↓reduceIte,Nat.reduceEqDiff],by simp -implicitDefEqProofs only [AA,↓reduceIte,Nat.reduceEqDiff],by simp -implicitDefEqProofs only [AA,↓reduceIte]; rfl,t.gv,t.hx,fun b hb=>hb.elim,outG.nil _ _ _ _⟩ ?_
 rintro n F H' ⟨k,hk,f3,f13,f14,f15,gv,he,hlt,ho⟩
 simp -implicitDefEqProofs only [A8,AX,BF,AZ,AU,A9,AL,AO,AJ,BA,AR,AC,AA,AY,BN,AB,CO,↓reduceIte,Option.getD_some,Bool.not_false,enP,f14,f15]
 refine CG (fun hc => ?_) (fun hc => ?_)
 ·have hk':k < gs.length:=by simpa using hc
  have hcl:((gs.take k).filter (fun g => !decide (F8 v g > 0))).length≤k:=Nat.le_trans (List.length_filter_le _ _) (by simp; omega)
  have hct:=AHA (fun g => !decide (F8 v g > 0)) gs k hk'
  have ho1:=ho.app [.live 4 [G7 gs[k]]]
  have he1:ext h (H' ++ [.live 4 [G7 gs[k]]]):=he.app _
  simp -implicitDefEqProofs only [A8,BM,AX,BK,AZ,AU,A9,AL,AO,AJ,BA,AR,AC,EQ,AA,AY,BS,FL,BL,EC,BU,BV,BR,BO,AB,DF,List.map_cons,List.map_nil,List.append_nil,↓reduceIte,Nat.reduceEqDiff,Option.getD_some,Bool.not_false,enP,AUS,Option.getD_none,f3,f13,f15,CW hk',ES ARF XK MQ hk',AYN,AXG _ _ [.bool false,.int .i64 0,.sl .nil 0 [],.int .i64 0] rfl,ldG (CQ H' _),ldV (C9 (x := .live 4 [G7 gs[k]]) gv)]
  refine (UA G v gs[k] (hin _ (List.getElem_mem hk')) _).use ?_
  simp -implicitDefEqProofs only [BF,AZ,AU,A9,AL,AO,AJ,BA,AR,AC,AA,AY,F9,AB,ER,↓reduceIte,Option.getD_some,Bool.not_false]
  cases hp:decide (F8 v gs[k] > 0)
  ·obtain ⟨v',H2,ha,ho',hkeep,he',hle,hb'⟩:=ho1.append AVI TY AW8 AZT (by omega) (by omega) he1 gs[k]
   simp -implicitDefEqProofs only [E8,FI,AX,DI,AU,AL,AO,AJ,BA,AR,AC,AA,AY,BB,EA,BL,BG,FT,BO,AB,↓reduceIte,Nat.reduceEqDiff,Nat.add_zero,Option.getD_some,Bool.not_false,enP,YX,ldH (CQ H' (.live 4 [G7 gs[k]])),AZV]
   refine FK (v:=v') (h:=H2) ha ?_
   simp -implicitDefEqProofs only [AX,AZ,DU,DZ,AU,A9,AL,AO,AJ,BA,AR,AC,AA,AY,AQ,BD,BB,A7,BN,AB,CR,↓reduceIte,Nat.reduceEqDiff,Option.getD_some,Bool.not_false,enP,f15,CB (show k < 9223372036854775807 by omega)]
   refine ⟨n - 1,by omega,k+1,by omega,f3,f13,f14,rfl,hkeep _ _ (C9 gv) (fun e=>by have:=hlt _ e; omega),he',fun b hbb => ?_,?_⟩
   ·have h1:=hb' b hbb; have h2:=CE gv; rw [h1]; simp; omega
   ·rw [hct,hp]; exact ho'
  ·simp -implicitDefEqProofs only [AX,BK,AZ,DU,DZ,DL,AU,A9,AL,AO,AJ,BA,AR,AC,AA,AY,AQ,BD,BB,BN,AB,CR,↓reduceIte,Nat.reduceEqDiff,Option.getD_some,Bool.not_true,Bool.not_false,enP,f15,CB (show k < 9223372036854775807 by omega)]
   refine ⟨n - 1,by omega,k+1,by omega,f3,f13,f14,rfl,C9 gv,he1,hlt,?_⟩
   rw [hct,hp]
   simp only [Bool.not_true,Bool.false_eq_true,if_false,List.append_nil]
   exact ho1
 ·have hk' : ¬ k < gs.length:=by simpa using hc
  rw [List.take_of_length_le (by omega)] at ho
  simp -implicitDefEqProofs only [A8,AX,BJ,CU,AZ,DR,EB,EF,CK,AU,A9,AL,AO,AJ,BA,AR,AC,AA,AY,BB,A7,↓reduceIte,Nat.reduceEqDiff,Option.getD_some,Bool.not_false]
  exact ⟨he,ho⟩
end Go.Proofs.YtocilianjfhifaaGreatDoor.Cov
/- Holes, Reached, Gain, Percent of both sides; no condition but the variables that are laid, the bounds on lengths, and cover.tuple's contract. -/
set_option linter.unusedSimpArgs false
set_option maxRecDepth 8000
namespace Go.Proofs.YtocilianjfhifaaGreatDoor.Cov
open Go Go.Proofs Go.Proofs.YtocilianjfhifaaGreatDoor.Sm Go.Proofs.YtocilianjfhifaaGreatDoor.Bins Go.RowKit

theorem ZM {p:Nat→Bool} : ∀ {l:List Int} {j:Nat},NM p j l=true→∀ z∈l,0≤z
 | [],_,_,_,h=>by cases h
 | n :: ns,j,h,z,hz=>by
   simp only [NM,Bool.and_eq_true] at h
   cases List.mem_cons.1 hz with
   | inl e =>
     subst e
     have:=h.1
     unfold countB GR at this
     simp only [Bool.and_eq_true,decide_eq_true_eq] at this
     exact this.1.1
   | inr e=>exact ZM h.2 z e
theorem AHY {l:List Is} {i k:Nat} (h : ∀ x,l[i]? = some x→∀ z∈x.l,0≤z):0≤cellAt l i k:=by
 unfold cellAt
 split
 ·rename_i x hx
  split
  ·rename_i z hz; exact h x hx z (List.mem_of_getElem? hz)
  ·omega
 ·omega
theorem ANX {m:Mo} {v:Cvr} (hf:E9 m v=true) {g:Gl} (hg:g∈goals m):0≤F8 v g:=by
 unfold E9 at hf
 simp only [Bool.and_eq_true] at hf
 obtain ⟨⟨⟨⟨_,h1⟩,h2⟩,_⟩,_⟩:=hf
 unfold F8
 rcases AP2 hg with ⟨hc,p,hp,hk⟩ | ⟨hc,c,hcc,hk⟩
 ·rw [if_neg (by simp [hc])]
  refine AHY fun x hx => ?_
  obtain ⟨x',hx',ho⟩:=O5 h1 _ _ hp
  rw [hx] at hx'; cases hx'
  unfold okP at ho
  simp only [Bool.and_eq_true] at ho
  exact ZM ho.2
 ·rw [if_pos hc]
  refine AHY fun x hx => ?_
  obtain ⟨x',hx',ho⟩:=O5 h2 _ _ hcc
  rw [hx] at hx'; cases hx'
  unfold okC at ho
  simp only [Bool.and_eq_true] at ho
  exact ZM ho.2
theorem AOM {z:Int} (h:0≤z):(z == 0) = !decide (z > 0):=by
 rw [Bool.eq_iff_iff]; simp; omega
end Go.Proofs.YtocilianjfhifaaGreatDoor.Cov
/- Gain of both sides, and equal lists of holes; no condition but the variables that are laid, the bounds on lengths, and cover.tuple's contract. -/
set_option linter.unusedSimpArgs false
set_option maxRecDepth 8000
namespace Go.Proofs.YtocilianjfhifaaGreatDoor.Cov
open Go Go.Proofs Go.Proofs.YtocilianjfhifaaGreatDoor.Sm Go.Proofs.YtocilianjfhifaaGreatDoor.Bins Go.RowKit

/-- a model and two coverages in three blocks -/
structure Three (h H:Hp) (m:Mo) (a b:Cvr) (ab bb:Nat):Prop where
 gm:H[h.length]? = some (.live 2 [DC m])
 ga:H[ab]? = some (.live 4 [D5 a])
 gb:H[bb]? = some (.live 4 [D5 b])
 hx : ∃ x,H=h ++ x
theorem Three.mk' (h:Hp) (m:Mo) (a b:Cvr):Three h (h ++ [.live 2 [DC m]] ++ [.live 4 [D5 a]] ++ [.live 4 [D5 b]]) m a b (h ++ [ABlk.live 2 [DC m]]).length (h ++ [ABlk.live 2 [DC m]] ++ [ABlk.live 4 [D5 a]]).length :=
 ⟨C9 (C9 (CQ _ _)),C9 (CQ _ _),CQ _ _,⟨_,by rw [List.append_assoc,List.append_assoc]⟩⟩
def QJ (a b:Cvr) (g:Gl):Bool:=decide (F8 b g > 0) && !decide (F8 a g > 0)
def UC (m:Mo) (a b:Cvr):Nat:=if E9 m a=true∧E9 m b=true then (goals m).countP (QJ a b) else 0
theorem VL (G:Nat→AV) (m:Mo) (a b:Cvr) (hm:MoOk m) (ha:CvOk a) (hb:CvOk b) (h:Hp):PCall (En G) 32 [.agg (DC m),.agg (D5 a),.agg (D5 b)] h (.int .i64 (UC m a b)):=by
 refine ACalls.pure0 rfl ?_
 refine BX (H:=Hint.none) (enM G) Tryz.func32 rfl (by kernel_rfl) (by kernel_rfl) (Nat.le_of_ble_eq_true (by kernel_rfl)) ?_
 show awp _ _ _ _ _ (EJ _ [.tmp 6] _)
 have t:=Three.mk' h m a b
 simp -implicitDefEqProofs only [A8,AX,AZ,AU,A9,AL,AO,AJ,BA,AR,AC,AA,AY,AQ,BD,A7,EW,BL,BO,BC,BP,↓reduceIte,Nat.reduceEqDiff,Option.getD_some,Bool.not_false,enP,bxM,bxV]
 generalize h ++ [ABlk.live 2 [DC m]] ++ [ABlk.live 4 [D5 a]] ++ [ABlk.live 4 [D5 b]]=H at t ⊢
 generalize (h ++ [ABlk.live 2 [DC m]] ++ [ABlk.live 4 [D5 a]]).length=bb at t ⊢
 generalize (h ++ [ABlk.live 2 [DC m]]).length=ab at t ⊢
 simp -implicitDefEqProofs only [AU,AL,AO,AJ,BA,AR,AC,AA,AY,BS,BV,BR,AB,List.map_cons,List.map_nil,List.append_nil,↓reduceIte,Option.getD_some,Bool.not_false,ldM t.gm]
 refine (OI G m hm _).use ?_
 simp -implicitDefEqProofs only [AU,BH,BQ,BZ,AL,AO,AJ,BA,AR,AC,AA,AY,AQ,BD,BB,BN,AB,ED,↓reduceIte,Option.getD_some,Bool.not_false,enP,bne]
 cases h1:(FH m == 0)
 ·simp -implicitDefEqProofs only [A8,AX,BJ,BF,AZ,CJ,CK,DI,AU,A9,BH,BQ,BZ,FN,AL,AO,AJ,BA,AR,AC,AA,EM,AY,AQ,BD,BI,BB,A7,CF,DJ,↓reduceIte,Nat.reduceEqDiff,Option.getD_some,Bool.not_false]
  have:E9 m a=false:=by unfold E9; rw [h1]; rfl
  exact ⟨by unfold UC; rw [if_neg (by simp [this])]; rfl,t.hx⟩
 simp -implicitDefEqProofs only [BH,BQ,BZ,EH,AL,AO,AJ,BA,AR,AC,AA,AY,BS,BL,BV,BR,AB,List.map_cons,List.map_nil,List.append_nil,↓reduceIte,Nat.reduceEqDiff,Option.getD_some,Bool.not_true,Bool.not_false,enP,ldM t.gm,ldV t.ga]
 refine (SI G m a hm ha _).use ?_
 simp -implicitDefEqProofs only [AU,BH,BQ,BZ,EH,AL,AO,AJ,BA,AR,AC,AA,AY,AQ,BI,BB,CF,DK,F9,AB,ER,↓reduceIte,Nat.reduceEqDiff,Option.getD_some,Bool.not_false]
 cases hfa:E9 m a
 ·simp -implicitDefEqProofs only [A8,AX,BJ,BF,AZ,CJ,CK,DI,AU,A9,BH,BQ,BZ,FN,AL,AO,AJ,BA,AR,AC,AA,EM,AY,AQ,BD,BI,A7,CF,DJ,↓reduceIte,Nat.reduceEqDiff,Option.getD_some,Bool.not_false]
  exact ⟨by unfold UC; rw [if_neg (by simp [hfa])]; rfl,t.hx⟩
 simp -implicitDefEqProofs only [BH,BQ,BZ,EH,AL,AO,AJ,BA,AR,AC,AA,AY,BS,BL,BV,BR,AB,List.map_cons,List.map_nil,List.append_nil,↓reduceIte,Nat.reduceEqDiff,Option.getD_some,Bool.not_true,Bool.not_false,enP,ldM t.gm,ldV t.gb]
 refine (SI G m b hm hb _).use ?_
 simp -implicitDefEqProofs only [BF,AZ,AU,A9,BH,BQ,BZ,EH,AL,AO,AJ,BA,AR,AC,AA,AY,AQ,BI,CF,DK,F9,AB,ER,↓reduceIte,Nat.reduceEqDiff,Option.getD_some,Bool.not_false]
 cases hfb:E9 m b
 ·simp -implicitDefEqProofs only [A8,AX,BJ,AZ,CJ,CK,DI,AU,A9,AL,AO,AJ,BA,AR,AC,AA,AQ,BD,A7,↓reduceIte,Option.getD_some,Bool.not_false]
  exact ⟨by unfold UC; rw [if_neg (by simp [hfb])]; rfl,t.hx⟩
 have hg:=JF (KS hfa)
 have hgl:=J4 hg
 have hia : ∀ g∈goals m,InR a g:=fun g hg'=>UU hfa hg'
 have hib : ∀ g∈goals m,InR b g:=fun g hg'=>UU hfb hg'
 have hpa0 : ∀ g∈goals m,0≤F8 a g:=fun g hg'=>ANX hfa hg'
 simp -implicitDefEqProofs only [A8,AX,BK,AZ,DL,AU,A9,AL,AO,AJ,BA,AR,AC,AA,AY,AQ,BS,BD,A7,BL,BV,BR,AB,List.map_cons,List.map_nil,List.append_nil,↓reduceIte,Nat.reduceEqDiff,Option.getD_some,Bool.not_true,Bool.not_false,enP,ldM t.gm]
 refine (ANE G m hm hg _).use ?_
 have hrn:UC m a b=(goals m).countP (QJ a b):=by unfold UC; rw [if_pos ⟨hfa,hfb⟩]
 rw [hrn]
 generalize goals m=gs at hgl hia hib hpa0 ⊢
 simp -implicitDefEqProofs only [A8,BM,AX,AZ,AU,A9,AL,AO,AJ,BA,AR,AC,AA,AY,AQ,BD,A7,↓reduceIte,Option.getD_some,Bool.not_false]
 refine CS (fun n F H' => ∃ k,n+k=gs.length∧F 4 = .ptr ab 0 0∧F 5 = .ptr bb 0 0∧F 7 = .int .i64 ((gs.take k).countP (QJ a b):Nat)∧F 8 = .sl (nm gs) 4 (gs.map G7)∧F 9 = .int .i64 (k:Nat)∧H'=H) gs.length ⟨0,by simp,by simp -implicitDefEqProofs only [AA,↓reduceIte,Nat.reduceEqDiff],by simp -implicitDefEqProofs only [AA,↓reduceIte,Nat.reduceEqDiff],by simp -implicitDefEqProofs only [AA,↓reduceIte,Nat.reduceEqDiff]; rfl,by simp -implicitDefEqProofs only [AA,↓reduceIte,Nat.reduceEqDiff],by simp -implicitDefEqProofs only [AA,↓reduceIte]; rfl,rfl⟩ ?_
 rintro n F H' ⟨k,hk,f4,f5,f7,f8,f9,rfl⟩
 simp -implicitDefEqProofs only [A8,AX,BF,AZ,AU,A9,AL,AO,AJ,BA,AR,AC,AA,AY,BB,BN,C8,AB,CO,↓reduceIte,Nat.reduceEqDiff,Option.getD_some,Bool.not_false,enP,AXN,f8,f9,List.length_map]
 refine CG (fun hc => ?_) (fun hc => ?_)
 ·have hk':k < gs.length:=by simpa using hc
  have hmem:=List.getElem_mem hk'
  have hcl:(gs.take k).countP (QJ a b)≤k:=Nat.le_trans (List.countP_le_length) (by simp; omega)
  have hct:=SL (QJ a b) gs k hk'
  simp -implicitDefEqProofs only [A8,BM,BK,AZ]
  refine EG (by kernel_rfl) ?_
  simp -implicitDefEqProofs only [FJ,DT,CZ,DV,ET,EN,GK,DN,FP,FD,AL,AA,AY,AQ,BS,BD,BL,BN,BU,AB,List.map_cons,List.map_nil,List.append_nil,↓reduceIte,Nat.reduceEqDiff,Nat.reduceAdd,Option.getD_some,enP,AUR,f4,f8,f9,CW hk',ES AVD ACG MQ hk',ldV t.ga]
  refine ⟨_,AA1 G a gs[k] (hia _ hmem) _,?_⟩
  try simp -implicitDefEqProofs only [FJ,DT,CZ,DV,EY,FR,ET,BZ,AL,AA,AY,AB,D9,↓reduceIte,Nat.reduceAdd,Option.getD_some]
  rw [AOM (hpa0 _ hmem)]
  cases hpa:decide (F8 a gs[k] > 0)
  ·simp -implicitDefEqProofs only [FJ,DT,CZ,EY,FR,QU,ET,EN,GK,DN,FP,FD,BZ,AL,AA,AY,AQ,BS,BD,BL,BN,BU,AB,List.map_cons,List.map_nil,List.append_nil,↓reduceIte,Nat.reduceEqDiff,Nat.reduceAdd,Option.getD_some,Bool.not_false,enP,AUR,f5,f8,f9,CW hk',ES AVD ACG MQ hk',ldV t.gb]
   refine ⟨_,AA1 G b gs[k] (hib _ hmem) _,?_⟩
   try simp -implicitDefEqProofs only [FJ,DT,CZ,EO,DV,G6,BF,AZ,AL,AA,AY,AQ,BI,CF,DJ,AB,EK,↓reduceIte,Nat.reduceEqDiff,Nat.reduceAdd,Option.getD_some]
   cases hpb:decide (F8 b gs[k] > 0)
   ·have hp:QJ a b gs[k]=false:=by unfold QJ; rw [hpb]; rfl
    simp -implicitDefEqProofs only [AX,BK,AZ,DU,DZ,DL,AU,A9,AL,AO,AJ,BA,AR,AC,AA,AY,AQ,BD,BB,A7,BN,AB,CR,↓reduceIte,Nat.reduceEqDiff,Option.getD_some,Bool.not_false,enP,f9,CB (show k < 9223372036854775807 by omega)]
    refine ⟨n - 1,by omega,k+1,by omega,f4,f5,?_,f8,rfl,trivial⟩
    rw [hct,hp]; exact f7
   ·have hp:QJ a b gs[k]=true:=by unfold QJ; rw [hpb,hpa]; rfl
    simp -implicitDefEqProofs only [AX,AZ,DU,DZ,DI,AU,A9,AL,AO,AJ,BA,AR,AC,AA,AY,AQ,BD,BB,A7,BN,AB,CR,↓reduceIte,Nat.reduceEqDiff,Option.getD_some,Bool.not_false,enP,f7,f9,CB (show k < 9223372036854775807 by omega),CB (show (gs.take k).countP (QJ a b) < 9223372036854775807 by omega)]
    refine ⟨n - 1,by omega,k+1,by omega,f4,f5,?_,f8,rfl,trivial⟩
    rw [hct,hp]; rfl
  ·have hp:QJ a b gs[k]=false:=by unfold QJ; rw [hpa]; simp
   simp -implicitDefEqProofs only [FJ,DT,CZ,EO,DV,EY,FR,ABL,G6,AX,BK,BF,AZ,DU,DZ,DL,AU,A9,BZ,AL,AO,AJ,BA,AR,AC,AA,EM,AY,AQ,BD,BI,BB,A7,CF,DK,BN,AB,CR,↓reduceIte,Nat.reduceEqDiff,Nat.reduceAdd,Option.getD_some,Bool.not_true,Bool.not_false,enP,f9,CB (show k < 9223372036854775807 by omega)]
   refine ⟨n - 1,by omega,k+1,by omega,f4,f5,?_,f8,rfl,trivial⟩
   rw [hct,hp]; exact f7
 ·have hk' : ¬ k < gs.length:=by simpa using hc
  rw [List.take_of_length_le (by omega)] at f7
  simp -implicitDefEqProofs only [A8,AX,BJ,CU,AZ,DR,EB,EF,CK,AU,A9,AL,AO,AJ,BA,AR,AC,AA,AY,BB,A7,↓reduceIte,Nat.reduceEqDiff,Option.getD_some,Bool.not_false,f7]
  exact ⟨trivial,t.hx⟩
end Go.Proofs.YtocilianjfhifaaGreatDoor.Cov
/- Equal lists of holes; no condition but the bounds on lengths. -/
set_option linter.unusedSimpArgs false
set_option maxRecDepth 8000
namespace Go.Proofs.YtocilianjfhifaaGreatDoor.Cov
open Go Go.Proofs Go.Proofs.YtocilianjfhifaaGreatDoor.Sm Go.Proofs.YtocilianjfhifaaGreatDoor.Bins Go.RowKit

def eqG (a b:Gl):Bool:=(a.cross == b.cross) && ((a.idx:Int) == (b.idx:Int)) && eqL a.bins b.bins
end Go.Proofs.YtocilianjfhifaaGreatDoor.Cov
/- The example of the chapter; no condition but the variables that are laid, and cover.tuple's contract. -/
set_option linter.unusedSimpArgs false
set_option maxRecDepth 8000
namespace Go.Proofs.YtocilianjfhifaaGreatDoor.Cov
open Go Go.Proofs Go.Proofs.YtocilianjfhifaaGreatDoor.Sm Go.Proofs.YtocilianjfhifaaGreatDoor.Bins Go.RowKit

def mkB (name:ByteArray) (kind lo hi:Int):Bin:=⟨name,kind,⟨.full,[⟨lo,hi⟩]⟩,.nil,[]⟩
theorem AYK (a b:Int):JX Tryz.prog 185 [(0,.int .i64 a),(1,.int .i64 b)]=some (.agg [.int .i64 a,.int .i64 b]):=by kernel_rfl
theorem AX6 (h:Hp) (a b:Int):FC Tryz.prog false h 118 1 [(0,.agg [.int .i64 a,.int .i64 b])]=some (.sl .full 2 [[.int .i64 a,.int .i64 b]],h):=by kernel_rfl
def AZH:Ex := .mk 2 0 ⟨#[97]⟩ .nil []
theorem AZW (n:Int) (s:ByteArray):JX Tryz.prog 53 [(0,.int .i64 n),(2,.str s)]=some (.agg [.int .i64 n,.int .i64 0,.str s,.sl .nil 0 []]):=by kernel_rfl
theorem AZ0 (h:Hp):JN Tryz.prog h 25=some (.ptr h.length 0 0,h ++ [.live 2 [[.sl .nil 0 [],.sl .nil 0 []]]]):=JC (row := [.sl .nil 0 [],.sl .nil 0 []]) (by kernel_rfl)
end Go.Proofs.YtocilianjfhifaaGreatDoor.Cov
/- The example of the chapter, checked; no condition but the variables that are laid, and cover.tuple's contract. -/
set_option linter.unusedSimpArgs false
set_option maxRecDepth 8000
namespace Go.Proofs.YtocilianjfhifaaGreatDoor.Cov
open Go Go.Proofs Go.Proofs.YtocilianjfhifaaGreatDoor.Sm Go.Proofs.YtocilianjfhifaaGreatDoor.Bins Go.RowKit

theorem AWO (h:Hp) (xs:List (List AV)):FC Tryz.prog false h 26 1 [(0,.sl .full 1 xs)]=some (.sl .full 1 [[.sl .full 1 xs]],h):=by kernel_rfl
end Go.Proofs.YtocilianjfhifaaGreatDoor.Cov
/- The law MergeMeasures; no condition but the variables that are laid, the bounds on lengths, and cover.tuple's contract. -/
set_option linter.unusedSimpArgs false
set_option maxRecDepth 8000
namespace Go.Proofs.YtocilianjfhifaaGreatDoor.Cov
open Go Go.Proofs Go.Proofs.YtocilianjfhifaaGreatDoor.Sm Go.Proofs.YtocilianjfhifaaGreatDoor.Bins Go.RowKit

theorem AJL {m:Mo} (hg:Good m) : ∀ g∈goals m,g.bins.length≤1048576:=by
 have hP : ∀ (i:Nat) (p:Pt) (k:Nat),∀ g∈gPk i p k,g.bins.length≤1048576:=by
  intro i p k
  induction k with
  | zero=>intro g h; cases h
  | succ k ih =>
    intro g h
    simp only [gPk,List.mem_append] at h
    rcases h with h | h
    ·exact ih g h
    ·split at h
     ·simp at h; subst h; exact Nat.le_of_ble_eq_true rfl
     ·cases h
 have hPs : ∀ i:Nat,∀ g∈gP m i,g.bins.length≤1048576:=by
  intro i
  induction i with
  | zero=>intro g h; cases h
  | succ i ih =>
    intro g h
    simp only [gP,List.mem_append] at h
    rcases h with h | h
    ·exact ih g h
    ·split at h
     ·exact hP _ _ _ g h
     ·cases h
 have hC : ∀ (i:Nat) (c:Cr) (k:Nat),c∈m.crs→∀ g∈gCk m i c k,g.bins.length≤1048576:=by
  intro i c k hc
  induction k with
  | zero=>intro g h; cases h
  | succ k ih =>
    intro g h
    simp only [gCk,List.mem_append] at h
    rcases h with h | h
    ·exact ih g h
    ·split at h
     ·simp at h; subst h
      show (L9 (szs m c.pts) k).length≤1048576
      unfold L9
      rw [List.length_map,LP,JE]
      have:=(hg.crs c hc).four
      omega
     ·cases h
 have hCs : ∀ i:Nat,∀ g∈gC m i,g.bins.length≤1048576:=by
  intro i
  induction i with
  | zero=>intro g h; exact hPs _ g h
  | succ i ih =>
    intro g h
    simp only [gC,List.mem_append] at h
    rcases h with h | h
    ·exact ih g h
    ·split at h
     ·rename_i c hc
      exact hC _ _ _ (List.mem_of_getElem? hc) g h
     ·cases h
 exact hCs _
end Go.Proofs.YtocilianjfhifaaGreatDoor.Cov
