/- Part 12 of the proof (Gh, Gi, Gj, Gk, Gl, Gm, Gn, D3); no condition. -/
import Derived.Test.YtgnoolgeijmlaaaGreatDoorZA11
set_option linter.unusedVariables false
set_option linter.unusedSimpArgs false
set_option maxRecDepth 8000
namespace Go.Proofs.YtgnoolgeijmlaaaGreatDoor.Bl
open Sm Bins Cov Xe Wd Go.Proofs.YtgnoolgeijmlaaaGreatDoor.Bd Go.RowKit
open Bool renaming not_false→jC,true_and→zV,or_false→jW,false_or→qF
open Int renaming reduceBEq→zX,eq_ofNat_of_zero_le→qW
open List renaming replicate→jK,append_assoc→zH,getElem?_cons_succ→jQ,getElem?_cons_zero→jP,map_cons→jF,map_nil→jE,getElem?_set_ne→jR,drop_eq_nil_of_le→zI,append_nil→jD,getElem?_map→zF,getElem?_eq_getElem→jS,drop_eq_getElem_cons→zT,getD_eq_getElem?_getD→zK,length_take→zQ,length_set→qE,length_cons→zO
open Nat renaming le_of_ble_eq_true→jH,reduceEqDiff→jA,reduceAdd→jL,zero_add→jG,le_refl→jO,add_zero→jI
open Option renaming getD_some→jB,getD_none→jJ
theorem AKP {E:Env} {f:AV} {args:List AV} {h:Hp} {K K':AV→Hp→Prop} (hk : ∀ v h',K v h'→K' v h') (hc:AAC E f args h K):AAC E f args h K':=by
 unfold AAC at *
 split at hc
 ·exact hc.mono hk
 ·exact hc.mono hk
 ·exact hc.elim
def CtV (G:Nat→AV) (bb:Nat) (rest:List AV) (fv:AV) (args:List AV) (H:Hp) (l:Dg) {α:Type} (m:M α) (enc:α→AV):Prop :=
 ∀ (base:Hp) (Bad:Prop),Kb bb base H→(m l=none→Bad)→AAC ((En G).wx (X0 bb base Bad)) fv args H fun v H' => ∃ a l',m l=some (a,l')∧v=enc a∧PS bb rest l' H'∧Kb bb H H'
theorem CtV.use {G:Nat→AV} {bb:Nat} {rest:List AV} {f:AV} {args:List AV} {H:Hp} {l:Dg} {α β:Type} {m:M α} {k:α→M β} {enc:α→AV} {TOT:Option (β × Dg)} {base:Hp} {Bad:Prop} {K:AV→Hp→Prop}
  (c:CtV G bb rest f args H l m enc) (hS:(m.bnd k) l=TOT) (hb:TOT=none→Bad) (hk:Kb bb base H) (hc : ∀ a l' H',m l=some (a,l')→k a l'=TOT→PS bb rest l' H'→Kb bb H H'→K (enc a) H'):AAC ((En G).wx (X0 bb base Bad)) f args H K :=
 AKP (fun v H' ⟨a,l',e,hv,s,k'⟩=>by rw [hv]; exact hc a l' H' e (by rw [← hS,NT e]) s k') (c base Bad hk fun e=>hb (by rw [← hS,SQ e]))
section
variable (G:Nat→AV) {bb:Nat} {rest:List AV}
theorem TF {H:Hp} {l:Dg} (s:PS bb rest l H) (x y:Wrd) (hx:x.length=16) (hy:y.length=16) (ox:LOk l x) (oy:LOk l y) (fv:AV) (op:Nat→Nat→M Nat)
  (hop : ∀ (l':Dg) (f g r:Nat) (l'':Dg),VD l'→Xt l l'→f < l'.length→g < l'.length→op f g l'=some (r,l'')→Xt l' l''∧r < l''.length)
  (hfv : ∀ (l':Dg) (H':Hp) (f g:Nat),PS bb rest l' H'→Xt l l'→Kb bb H H'→f < l'.length→g < l'.length→CtV G bb rest fv [iA f,iA g] H' l' (op f g) iA):Ct G bb rest 82 [wA x,wA y,fv] H l (pr2 op x y) wA:=by
 intro base Bad hk hb
 generalize hT:pr2 op x y l=TOT at hb
 refine acN Tryz.func82 rfl ?_
 show awp _ _ _ _ _ (EH _ [.cell 6 74] _)
 simp -implicitDefEqProofs only [BC,CG,A8,A7,AZ,BB,AC,AQ,AO,BD,AX,AL,AA,AY,AU,BH,BG,EF,FK,wxP,BR,BF,BU,↓reduceIte,jA,jB,jC,enP,PZ _ hx,PZ _ hy,SV]
 generalize hX:H ++ [ABlk.live 16 [cW x]] ++ [ABlk.live 16 [cW y]] ++ [ABlk.live 16 [cW (jK 16 0)]]=X
 have hxe:ext H X:=by rw [← hX]; exact (((ext.rfl' H).app _).app _).app _
 have q3:isW X H.length x:=by rw [← hX]; exact BN (BN (CV _ _))
 have q4:isW X (H.length+1) y:=by rw [← hX]; exact BN (GK (by simp))
 have q6:isW X (H.length+2) (jK 16 0):=by rw [← hX]; exact GK (by simp)
 have sX:=s.ext hxe
 have kX:=Kb.ofExt (bb:=bb) hxe
 have e1:(H ++ [ABlk.live 16 [cW x]]).length=H.length+1:=by simp
 have e2:(H ++ [ABlk.live 16 [cW x]] ++ [ABlk.live 16 [cW y]]).length=H.length+2:=by simp
 rw [e1,e2]
 have sl:=s.lt
 refine G6 0 (fun F H' => ∃ d l',d.length=16∧TOT=some (d,l')∧PS bb rest l' H'∧Kb bb H H'∧isW H' H.length d∧(∃ z:Wrd,z.length=16∧isW H' (H.length+2) z)∧F 3 = .ptr H.length 0 0∧F 6 = .ptr (H.length+2) 0 0) (fun _ _=>False) ?_ ?_ (fun _ _ q=>q.elim)
 ·refine D5 (fun m F H' => ∃ k d l',m+k=16∧d.length=k∧((pr2 op (x.drop k) (y.drop k)).bnd fun r=>ret (d ++ r)) l'=TOT∧Xt l l'∧PS bb rest l' H'∧Kb bb H H'∧isW H' H.length (d ++ x.drop k)∧isW H' (H.length+1) y∧(∃ z:Wrd,z.length=16∧isW H' (H.length+2) z) ∧
   F 2=fv∧F 3 = .ptr H.length 0 0∧F 4 = .ptr (H.length+1) 0 0∧F 6 = .ptr (H.length+2) 0 0∧F 8 = .int .i64 (k:Nat)) 16
   ⟨0,[],l,rfl,rfl,by rw [← hT]; exact JM _ _,Xt.rfl' l,sX,kX,q3,q4,⟨_,by simp,q6⟩,by simp -implicitDefEqProofs only [AA,BF,BU,↓reduceIte,jA],by simp -implicitDefEqProofs only [AA,↓reduceIte,jA],by simp -implicitDefEqProofs only [AA,↓reduceIte,jA],by simp -implicitDefEqProofs only [AA,↓reduceIte,jA],by simp -implicitDefEqProofs only [AA,↓reduceIte]; rfl⟩ ?_
  clear q3 q4 q6 sX kX
  rintro m F H' ⟨k,d,l',hm,hd,hS,xl,s',k',q3,q4,⟨z,hz,q6⟩,f2,f3,f4,f6,f8⟩
  simp -implicitDefEqProofs only [BC,A8,BI,A7,AZ,BB,AC,AQ,AO,BD,AX,AL,AA,AY,AU,BH,BX,wxP,AB,C9,↓reduceIte,jB,jC,enP,f8,UK]
  refine CX (fun hc => ?_) (fun hc => ?_)
  ·have hk':k < 16:=by simpa using hc
   have hxl:k < x.length:=by omega
   have hyl:k < y.length:=by omega
   have hxk:=(ox.go xl).getD hxl
   have hyk:=(oy.go xl).getD hyl
   rw [KX hxl] at hS q3
   rw [KX hyl] at hS
   have hS:((op (x.getD k 0) (y.getD k 0)).bnd fun g=>(pr2 op (x.drop (k+1)) (y.drop (k+1))).bnd fun r=>ret ((d ++ [g]) ++ r)) l'=TOT:=by
    rw [← hS]
    show _=(((op (x.getD k 0) (y.getD k 0)).bnd fun g=>(pr2 op (x.drop (k+1)) (y.drop (k+1))).bnd fun s=>ret (g :: s)).bnd fun r=>ret (d ++ r)) l'
    rw [IG]
    refine congrFun (congrArg (M.bnd _) (funext fun g => ?_)) l'
    rw [IG]
    refine congrArg (M.bnd _) (funext fun r => ?_)
    show ret ((d ++ [g]) ++ r)=ret (d ++ (g :: r))
    rw [zH]; rfl
   have hlq:k < (d ++ x.getD k 0 :: x.drop (k+1)).length:=by simp [hd]
   have hld:=ldW q3 (i:=k) hlq
   rw [SG hd] at hld
   simp -implicitDefEqProofs only [BC,CG,A8,BQ,A7,AZ,BB,AC,AQ,AO,BD,AX,AL,AA,AY,BG,BA,↓reduceIte,jA,jB,jC,f8]
   refine GI (.ones [0,1,2,3,4,5,6,7] (.alt 8 (.ones [9,10] .done) .non)) (by kernel_rfl) ?_
   simp only [DN,JQ,jQ,jP]
   simp -implicitDefEqProofs only [FC,DT,CZ,D8,DV,ED,EK,ES,A8,A7,ET,AZ,AC,AQ,AO,BD,AX,AA,AY,AU,BH,BO,BX,CO,CB,wxP,AB,jF,jE,↓reduceIte,jA,jL,jB,jC,enP,f2,f3,f4,PW hk',hld,ldW q4 hyl,GR,GU]
   refine ⟨(hfv l' H' _ _ s' xl k' hxk hyk).use hS hb (hk.trans k') ?_,trivial⟩
   intro g l1 H1 eg hS1 s1 k1
   obtain ⟨x1,g1⟩:=hop l' _ _ g l1 s'.v xl hxk hyk eg
   have b1:=s'.lt
   have kl:=k'.len
   have q3:=k1.keep _ _ q3 (by omega)
   have q4:=k1.keep _ _ q4 (by omega)
   have q6:=k1.keep _ _ q6 (by omega)
   have hst:=stW (n:=g) q3 (i:=k) hlq
   rw [set_mid hd] at hst
   simp -implicitDefEqProofs only [FC,DT,CZ,H9,D8,DV,IX,EX,AZ,BB,AC,AQ,AO,BD,AX,AL,AA,AY,BG,DC,wxP,AB,CJ,DX,↓reduceIte,jA,jG,jB,jC,enP,jJ,GR,GU,f3,f8,PW hk',hst,wrap_succ (show k < 9223372036854775807 by omega)]
   refine ⟨m - 1,by omega,k+1,d ++ [g],l1,by omega,by simp [hd],hS1,xl.trans x1,s1.set (by omega) _,(k'.trans k1).setN (by omega) _,DY q3,?_,⟨z,hz,?_⟩,by trivial,by trivial,by trivial,by trivial,by trivial⟩
   ·unfold isW; rw [jR (by omega)]; exact q4
   ·unfold isW; rw [jR (by omega)]; exact q6
  ·have hk':k=16:=by have:=hc; simp at this; omega
   subst hk'
   rw [zI (show x.length≤16 by omega)] at hS q3
   have hS:ret (d ++ []) l'=TOT:=hS
   rw [jD] at hS q3
   simp -implicitDefEqProofs only [DW,EP,KE,FM,AA,↓reduceIte,jA]
   exact ⟨d,l',hd,hS.symm,s',k',q3,⟨z,hz,q6⟩,f3,f6⟩
 ·rintro F H' ⟨d,l',hd,e,s',k',q3,⟨z,hz,q6⟩,f3,f6⟩
  simp -implicitDefEqProofs only [BC,A8,BK,A7,FH,AZ,BB,AC,AQ,AO,BD,AX,AL,DK,AA,AY,BO,DC,wxP,AB,CJ,↓reduceIte,jA,jB,jC,enP,jJ,f3,f6,G5 q3 hd,TV q6 hz hd]
  rw [IK _ _ _ _ _ _ _ _ _ (show _=AV.ptr (H.length+2) 0 0 by first | exact f6 | (simp -implicitDefEqProofs only [f6])),G5 (DY q6) hd]
  exact ⟨_,rfl,d,l',e,rfl,s'.set (by omega) _,k'.setN (by omega) _⟩
theorem ANI {H:Hp} {l:Dg} (s:PS bb rest l H) (x:Wrd) (hx:x.length=16) (ox:LOk l x):Ct G bb rest 80 [.ptr bb 0 0,wA x] H l (onL x (cst 0)) wA:=by
 intro base Bad hk hb
 generalize hT:onL x (cst 0) l=TOT at hb
 refine acN Tryz.func80 rfl ?_
 show awp _ _ _ _ _ (EH _ [.cell 4 74] _)
 simp -implicitDefEqProofs only [BC,A8,A7,AZ,BB,AC,AQ,AO,BD,AX,AL,AY,AU,BZ,BH,EF,FK,CB,BP,wxP,BR,BF,BU,jF,jE,jD,jB,jC,enP,PZ _ hx,SV]
 refine (pcX (NC G 0 (by omega) _)).use ?_
 simp -implicitDefEqProofs only [AZ,AC,AQ,AO,BD,AX,AL,AA,AY,EF,DC,wxP,BR,↓reduceIte,jA,jB,jC,enP,jJ,SV]
 generalize hX0:H ++ [ABlk.live 16 [cW x]] ++ [ABlk.live 16 [cW (jK 16 0)]]=X0'
 have e1:(H ++ [ABlk.live 16 [cW x]]).length=H.length+1:=by simp
 have e2:X0'.length=H.length+2:=by rw [← hX0]; simp
 rw [e1,e2]
 have q30:isW X0' H.length x:=by rw [← hX0]; exact BN (CV _ _)
 have q40:isW X0' (H.length+1) (jK 16 0):=by rw [← hX0]; exact GK (by simp)
 have hx0:ext H X0':=by rw [← hX0]; exact ((ext.rfl' H).app _).app _
 have hst0:FB Tryz.prog (X0' ++ [ABlk.live 16 [cW (jK 16 0)]]) 74 (.ptr (H.length+2) 0 0) (wA (cst 0))=some (X0' ++ [ABlk.live 16 [cW (cst 0)]]):=by
  rw [TV (GK e2) (by simp) (IY 0),← e2,JI]
 simp -implicitDefEqProofs only [BC,CG,A8,A7,AZ,BB,AC,AQ,AO,BD,AX,AL,DK,AA,AY,AU,BH,BG,BO,wxP,AB,CJ,↓reduceIte,jA,jB,jC,enP,hst0,G5 (BN q30) hx]
 generalize hX:X0' ++ [ABlk.live 16 [cW (cst 0)]]=X
 have hxe:ext H X:=by rw [← hX]; exact hx0.app _
 have q3:isW X H.length x:=by rw [← hX]; exact BN q30
 have q4:isW X (H.length+1) (jK 16 0):=by rw [← hX]; exact BN q40
 have q5:isW X (H.length+2) (cst 0):=by rw [← hX]; exact GK e2
 have sX:=s.ext hxe
 have kX:=Kb.ofExt (bb:=bb) hxe
 have sl:=s.lt
 refine G6 0 (fun F H' => ∃ d l',d.length=16∧TOT=some (d,l')∧PS bb rest l' H'∧Kb bb H H'∧isW H' (H.length+2) d∧(∃ z:Wrd,z.length=16∧isW H' (H.length+1) z)∧F 4 = .ptr (H.length+1) 0 0∧F 5 = .ptr (H.length+2) 0 0) (fun _ _=>False) ?_ ?_ (fun _ _ q=>q.elim)
 ·refine D5 (fun m F H' => ∃ k d l',m+k=16∧d.length=16∧LOk l' d∧onL (x.drop k) d l'=TOT∧LOk l' x∧PS bb rest l' H'∧Kb bb H H'∧isW H' (H.length+2) d∧(∃ z:Wrd,z.length=16∧isW H' (H.length+1) z) ∧
   F 0 = .ptr bb 0 0∧F 4 = .ptr (H.length+1) 0 0∧F 5 = .ptr (H.length+2) 0 0∧F 9=wA x∧F 10 = .int .i64 (k:Nat)) 16
   ⟨0,cst 0,l,rfl,IY 0,LOk.cst s.v 0,hT,ox,sX,kX,q5,⟨_,by simp,q4⟩,by simp -implicitDefEqProofs only [AA,BF,↓reduceIte,jA],by simp -implicitDefEqProofs only [AA,↓reduceIte,jA],by simp -implicitDefEqProofs only [AA,↓reduceIte,jA],by simp -implicitDefEqProofs only [AA,↓reduceIte,jA],by simp -implicitDefEqProofs only [AA,↓reduceIte]; rfl⟩ ?_
  clear q3 q4 q5 sX kX
  rintro m F H' ⟨k,d,l',hm,hd,od,hS,ox',s',k',q5,⟨z,hz,q4⟩,f0,f4,f5,f9,f10⟩
  simp -implicitDefEqProofs only [BC,A8,BI,A7,AZ,BB,AC,AQ,AO,BD,AX,AL,AA,AY,AU,BH,BX,wxP,AB,C9,↓reduceIte,jB,jC,enP,f10,UK]
  refine CX (fun hc => ?_) (fun hc => ?_)
  ·have hk':k < 16:=by simpa using hc
   have hxl:k < x.length:=by omega
   have hxk:=ox'.getD hxl
   rw [KX hxl] at hS
   have hS:((RD d (sgl (x.getD k 0)) 0).bnd fun s'=>onL (x.drop (k+1)) s') l'=TOT:=hS
   simp -implicitDefEqProofs only [BC,CG,A8,BQ,A7,AZ,BB,AC,AQ,AO,BD,AX,AL,AA,AY,BA,MB,wxP,AB,↓reduceIte,jA,jB,jC,enP,f9,f10,AZX hk' hx]
   refine GI (.ones [0,2,3,1] (.alt 4 (.ones [5] .done) (.non))) (by kernel_rfl) ?_
   simp only [DN,JQ,jQ,jP]
   simp -implicitDefEqProofs only [FC,DT,CZ,D8,DV,ED,EK,IX,IB,GZ,A8,A7,ET,AZ,AC,AQ,AO,BD,AX,AA,AY,AU,BZ,BH,BO,DC,BX,CB,BP,wxP,AB,jF,jE,jD,↓reduceIte,jA,jL,jG,jB,jC,enP,jJ,f0,f5,G5 q5 hd,GR,GU]
   refine ⟨_,pcX (JL G (x.getD k 0) H'),?_⟩
   refine ⟨(XF G s' d (sgl (x.getD k 0)) 0 hd (JU _) od (LOk.sgl s'.v hxk) s'.v.p0).use hS hb (hk.trans k') ?_,trivial⟩
   intro r l1 H1 er hS1 s1 k1
   obtain ⟨v1,x1,_,⟨r1,r2⟩,_⟩:=PP d (sgl (x.getD k 0)) l' 0 s'.v (by rw [hd]; rfl) od (LOk.sgl s'.v hxk) s'.v.p0 r l1 er
   have b1:=s'.lt
   have kl:=k'.len
   have q5:=k1.keep _ _ q5 (by omega)
   have q4:=k1.keep _ _ q4 (by omega)
   simp -implicitDefEqProofs only [H9,D8,EX,AZ,BB,AC,AQ,AO,BD,AX,AL,AA,AY,BG,AB,CJ,DX,↓reduceIte,jA,jB,jC,GR,GU,f5,TV q5 hd (show r.length=16 by omega),f10,wrap_succ (show k < 9223372036854775807 by omega)]
   refine ⟨m - 1,by omega,k+1,r,l1,by omega,by omega,r2,hS1,ox'.go x1,s1.set (by omega) _,(k'.trans k1).setN (by omega) _,DY q5,⟨z,hz,?_⟩,by trivial,by trivial,by trivial,by trivial,by trivial⟩
   unfold isW; rw [jR (by omega)]; exact q4
  ·have hk':k=16:=by have:=hc; simp at this; omega
   subst hk'
   rw [zI (show x.length≤16 by omega)] at hS
   simp -implicitDefEqProofs only [DW,EP,KE,FM,AA,↓reduceIte,jA]
   exact ⟨d,l',hd,hS.symm,s',k',q5,⟨z,hz,q4⟩,f4,f5⟩
 ·rintro F H' ⟨d,l',hd,e,s',k',q5,⟨z,hz,q4⟩,f4,f5⟩
  simp -implicitDefEqProofs only [BC,A8,BK,A7,FH,AZ,BB,AC,AQ,AO,BD,AX,AL,DK,AA,AY,BO,DC,wxP,AB,CJ,↓reduceIte,jA,jB,jC,enP,jJ,f4,f5,G5 q5 hd,TV q4 hz hd]
  rw [IK _ _ _ _ _ _ _ _ _ (show _=AV.ptr (H.length+1) 0 0 by first | exact f4 | (simp -implicitDefEqProofs only [f4])),G5 (DY q4) hd]
  exact ⟨_,rfl,d,l',e,rfl,s'.set (by omega) _,k'.setN (by omega) _⟩
end
abbrev isR (H:Hp) (b:Nat) (ws:List Wrd):Prop:=H[b]? = some (.live 16 (ws.map cW))
theorem isR.ix {H:Hp} {b:Nat} {ws:List Wrd} (h:isR H b ws) {o n i:Nat} {kk:IntKind} (hi:i < n):MG 16 H (.own b o n) (.int kk (i:Nat))=some (.ptr b (o+i) 0):=PD h hi
theorem isR.ld {H:Hp} {b:Nat} {ws:List Wrd} (h:isR H b ws) {i:Nat} {w:Wrd} (hi:ws[i]? = some w) (hw:w.length=16):DF Tryz.prog H 74 (.ptr b i 0)=some (wA w):=by
 rw [GH ag74 sz74 h (row:=cW w) (by rw [zF,hi]; rfl) (by rw [LZ,hw]; exact jO 16),List.drop_zero,List.take_of_length_le (by rw [LZ,hw]; exact jO 16)]; rfl
theorem Kb.row {bb:Nat} {H H':Hp} (k:Kb bb H H') {b:Nat} {ws:List Wrd} (h:isR H b ws) (hb:b≠bb):isR H' b ws:=k.keep _ _ h hb
theorem AP4 {x y:Wrd} {l l':Dg} {t r:Nat} (v:VD l) (hl:x.length=y.length) (ox:LOk l x) (oy:LOk l y) (ht:t < l.length) (e:lsL x y t l=some (r,l')):Xt l l'∧r < l'.length:=by
 obtain ⟨_,x1,_,r1,_⟩:=UL x y l t v hl ox oy ht r l' e
 exact ⟨x1,r1⟩
section
variable (G:Nat→AV) {bb:Nat} {rest:List AV}
theorem AHW {H:Hp} {l:Dg} (s:PS bb rest l H) (x:Wrd) (hx:x.length=16) (ox:LOk l x) (ab:Nat) (hab:ab≠bb) (all:List Wrd) (qa:isR H ab all) (o:Nat) (ow : ∀ w∈all.drop o,w.length=16∧LOk l w) (hsm:all.length < 4000000) :
  Ct G bb rest 81 [.ptr bb 0 0,wA x,.own ab o (all.length - o)] H l (insL x (all.drop o) 0) iA:=by
 intro base Bad hk hb
 generalize hT:insL x (all.drop o) 0 l=TOT at hb
 generalize hn:all.length - o=n at *
 have ho:all.length=o+n∨n=0:=by omega
 refine acN Tryz.func81 rfl ?_
 show awp _ _ _ _ _ (EH _ [.tmp 6] _)
 have hab':=BV qa
 have q4:=CV H (ABlk.live 16 [cW x])
 have qa':isR (H ++ [ABlk.live 16 [cW x]]) ab all:=BN qa
 have sl:=s.lt
 have s0:=s.app (ABlk.live 16 [cW x])
 have k0:=(Kb.rfl' bb H).app (ABlk.live 16 [cW x])
 simp -implicitDefEqProofs only [BC,CG,A8,A7,AZ,BB,AC,AQ,AO,BD,AX,AL,AY,AU,BH,BA,FK,wxP,BR,BF,BU,jB,jC,enP,PZ _ hx]
 generalize H ++ [ABlk.live 16 [cW x]]=X at q4 qa' s0 k0 ⊢
 refine G6 0 (fun F H' => ∃ t l',TOT=some (t,l')∧PS bb rest l' H'∧Kb bb H H'∧F 7=iA t) (fun _ _=>False) ?_ ?_ (fun _ _ q=>q.elim)
 ·refine D5 (fun m F H' => ∃ k t l',m+k=n+2∧insL x (all.drop (o+k)) t l'=TOT∧Xt l l'∧t < l'.length∧PS bb rest l' H'∧Kb bb H H'∧isW H' H.length x∧isR H' ab all∧F 0 = .ptr bb 0 0∧F 2 = .own ab o n∧F 4 = .ptr H.length 0 0∧F 7=iA t∧F 8 = .int .i64 (k:Nat)) (n+2)
   ⟨0,0,l,rfl,hT,Xt.rfl' l,s.v.p0,s0,k0,q4,qa',by simp -implicitDefEqProofs only [AA,BF,↓reduceIte,jA],by simp -implicitDefEqProofs only [AA,BF,BU,↓reduceIte,jA],by simp -implicitDefEqProofs only [AA,↓reduceIte,jA],by simp -implicitDefEqProofs only [AA,↓reduceIte,jA]; rfl,by simp -implicitDefEqProofs only [AA,↓reduceIte]; rfl⟩ ?_
  clear q4 qa' s0 k0
  rintro m F H' ⟨k,t,l',hm,hS,xl,ht,s',k',q4,qa',f0,f2,f4,f7,f8⟩
  have ec:decide (((k+1:Nat):Int) < (n:Nat))=decide (k+1 < n):=by rw [decide_eq_decide]; omega
  simp -implicitDefEqProofs only [BC,A8,BI,A7,AZ,BB,AC,AQ,AO,BD,AX,AL,AA,AY,AU,BH,BG,BX,EW,wxP,AB,DX,C9,↓reduceIte,jA,jB,jC,enP,AZO,f8,f2,wrap_succ (show k < 9223372036854775807 by omega),ec]
  refine CX (fun hc => ?_) (fun hc => ?_)
  ·have hk':k+1 < n:=by simpa using hc
   have hlen:o+k+1 < all.length:=by omega
   have ga:all[o+k]? = some all[o+k]:=jS (by omega)
   have gb:all[o+(k+1)]? = some all[o+(k+1)]:=jS (by omega)
   rw [zT (show o+k < all.length by omega),zT (show o+k+1 < all.length by omega)] at hS
   obtain ⟨wa,oa⟩:=ow all[o+k] (by rw [List.mem_iff_getElem]; exact ⟨k,by simp; omega,by simp⟩)
   obtain ⟨wb,ob⟩:=ow all[o+(k+1)] (by rw [List.mem_iff_getElem]; exact ⟨k+1,by simp; omega,by simp⟩)
   generalize all[o+k]=a at hS ga wa oa
   have eb:all[o+k+1]=all[o+(k+1)]:=rfl
   rw [eb] at hS
   generalize all[o+(k+1)]=b at hS gb wb ob
   have hS:((lsL x a 0).bnd fun m=>(NZ m).bnd fun n'=>(lsL b x 0).bnd fun o'=>(NZ o').bnd fun q=>(KN n' q).bnd fun u=>(oOr t u).bnd fun t'=>insL x (all.drop (o+k+1+1)) t') l'=TOT:=hS
   have oxx:=ox.go xl
   have oaa:=oa.go xl
   have obb:=ob.go xl
   have b1:=s'.lt
   have kl:=k'.len
   simp -implicitDefEqProofs only [BC,CG,BQ,A7]
   refine GI (.ones [0,1,2,3,4,5,6] (.alt 7 (.alt 8 (.ones [9] .done) .non) .non)) (by kernel_rfl) ?_
   simp only [DN,JQ,jQ,jP]
   simp -implicitDefEqProofs only [FC,DT,CZ,D8,DV,ED,GN,EK,ES,BC,A7,AC,AA,AY,BZ,BO,CO,CB,BP,wxP,AB,jF,jE,jD,↓reduceIte,jA,jL,jB,enP,TR,f0,f2,f4,f8,qa'.ix (show k < n by omega),G5 q4 hx,qa'.ld ga wa,GR,GU]
   refine ⟨(U8 G s' x a hx wa oxx oaa).use hS hb (hk.trans k') ?_,trivial⟩
   intro r1 l1 H1 e1 hS s1 k1
   obtain ⟨x1,p1⟩:=AP4 s'.v (by omega) oxx oaa s'.v.p0 e1
   have q4:=k1.keep _ _ q4 (by omega)
   have qa':=k1.row qa' hab
   simp -implicitDefEqProofs only [AA,↓reduceIte,jA,f0,GR,GU]
   refine ⟨(KJ G s1 r1 p1).use hS hb (hk.trans (k'.trans k1)) ?_,trivial⟩
   intro r2 l2 H2 e2 hS s2 k2
   obtain ⟨x2,p2⟩:=apX s1.v p1 p1 p1 e2
   have q4:=k2.keep _ _ q4 (by omega)
   have qa':=k2.row qa' hab
   simp -implicitDefEqProofs only [AA,↓reduceIte,GR,GU]
   have x12:=x1.trans x2
   refine GI (.ones [0,1,2,3,4,5,6,7] (.alt 8 (.alt 9 (.ones [10] .done) .non) .non)) (by kernel_rfl) ?_
   simp only [DN,JQ,jQ,jP]
   simp -implicitDefEqProofs only [FC,DT,CZ,D8,DV,ED,GN,EK,IE,ES,A8,A7,AZ,AC,AQ,AO,BD,AX,AL,AA,AY,AU,BZ,BH,BG,BO,BX,CO,CB,BP,wxP,AB,DX,jF,jE,jD,↓reduceIte,jA,jL,jB,jC,enP,TR,f0,f2,f4,f8,wrap_succ (show k < 9223372036854775807 by omega),qa'.ix hk',G5 q4 hx,qa'.ld gb wb,GR,GU]
   have b3:=s2.lt
   refine ⟨(U8 G s2 b x wb hx (obb.go x12) (oxx.go x12)).use hS hb (hk.trans (k'.trans (k1.trans k2))) ?_,trivial⟩
   intro r3 l3 H3 e3 hS s3 k3
   obtain ⟨x3,p3⟩:=AP4 s2.v (by omega) (obb.go x12) (oxx.go x12) s2.v.p0 e3
   have q4:=k3.keep _ _ q4 (by omega)
   have qa':=k3.row qa' hab
   simp -implicitDefEqProofs only [AA,↓reduceIte,jA,f0,GR,GU]
   refine ⟨(KJ G s3 r3 p3).use hS hb (hk.trans (k'.trans (k1.trans (k2.trans k3)))) ?_,trivial⟩
   intro r4 l4 H4 e4 hS s4 k4
   obtain ⟨x4,p4⟩:=apX s3.v p3 p3 p3 e4
   have q4:=k4.keep _ _ q4 (by omega)
   have qa':=k4.row qa' hab
   have x34:=x3.trans x4
   simp -implicitDefEqProofs only [AA,↓reduceIte,jA,f0,GR,GU]
   refine (J7 G s4 r2 r4 (x34.lt p2) p4).use hS hb (hk.trans (k'.trans (k1.trans (k2.trans (k3.trans k4))))) ?_
   intro r5 l5 H5 e5 hS s5 k5
   obtain ⟨x5,p5⟩:=apX s4.v (x34.lt p2) p4 p4 e5
   have q4:=k5.keep _ _ q4 (by omega)
   have qa':=k5.row qa' hab
   have x15:=x12.trans (x34.trans x5)
   simp -implicitDefEqProofs only [AZ,AC,AQ,AO,BD,AX,AL,AA,AY,BZ,CB,BP,jF,jE,jD,↓reduceIte,jA,jB,jC,f7]
   refine (MP G s5 t r5 (x15.lt ht) p5).use hS hb (hk.trans (k'.trans (k1.trans (k2.trans (k3.trans (k4.trans k5)))))) ?_
   intro r6 l6 H6 e6 hS s6 k6
   obtain ⟨x6,p6⟩:=apX s5.v (x15.lt ht) p5 p5 e6
   have q4:=k6.keep _ _ q4 (by omega)
   have qa':=k6.row qa' hab
   simp -implicitDefEqProofs only [A8,A7,ET,EX,AZ,BB,AC,AQ,AO,BD,AX,AL,AA,AY,AU,BH,BG,BA,BX,wxP,AB,DX,↓reduceIte,jA,jB,jC,enP,f8,wrap_i64 (show (-9223372036854775808:Int)≤(k:Int)+2 by omega) (by omega)]
   exact ⟨m - 2,by omega,k+2,r6,l6,by omega,hS,xl.trans (x15.trans x6),p6,s6,k'.trans (k1.trans (k2.trans (k3.trans (k4.trans (k5.trans k6))))),q4,qa',by trivial,by trivial,by trivial,by trivial,by trivial⟩
  ·have hk' : ¬ k+1 < n:=by have:=hc; simp at this; omega
   have hS:ret t l'=TOT:=by
    rw [← hS]
    cases hd:all.drop (o+k) with
    | nil=>rfl
    | cons a r =>
      cases r with
      | nil=>rfl
      | cons b r=>have:=congrArg List.length hd; simp at this; omega
   simp -implicitDefEqProofs only [DW,EP,KE,FM,AA,↓reduceIte,jA]
   exact ⟨t,l',hS.symm,s',k',f7⟩
 ·rintro F H' ⟨t,l',e,s',k',f7⟩
  simp -implicitDefEqProofs only [BC,A8,BK,A7,FH,CU,AZ,BB,AC,AQ,AO,BD,AX,AL,AA,AY,BG,BA,↓reduceIte,jB,jC,f7]
  exact ⟨t,l',e,rfl,s',k'⟩
end
theorem ARU {α:Type} (xs:List Nat) (g j:Nat) (hj:j < xs.length) (d:Wrd) (K:Wrd→M α):((AGI (xs.drop j) g).bnd fun r=>K (d ++ r))=(KN (xs.getD j 0) g).bnd fun a=>(AGI (xs.drop (j+1)) g).bnd fun r=>K ((d ++ [a]) ++ r):=by
 rw [zT hj,getD_at hj]
 show ((KN xs[j] g).bnd fun a=>(AGI (xs.drop (j+1)) g).bnd fun s=>ret (a :: s)).bnd _=_
 rw [IG]
 refine congrArg (M.bnd _) (funext fun a => ?_)
 rw [IG]
 refine congrArg (M.bnd _) (funext fun r => ?_)
 show K (d ++ (a :: r))=_
 rw [zH]; rfl
theorem AM2 (x:Wrd) (n j:Nat) (h:j < n):(x.take n).getD j 0=x.getD j 0:=by
 rw [zK,zK,List.getElem?_take,if_pos h]
section
variable (G:Nat→AV) {bb:Nat} {rest:List AV}
set_option maxHeartbeats 2000000 in
theorem AFG {H:Hp} {l:Dg} (s:PS bb rest l H) (x y:Wrd) (hx:x.length=16) (hy:y.length=16) (ox:LOk l x) (oy:LOk l y):Ct G bb rest 146 [.ptr bb 0 0,wA x,wA y] H l (ADK x 0 y (cst 0)) wA:=by
 intro base Bad hk hb
 generalize hT:ADK x 0 y (cst 0) l=TOT at hb
 refine acN Tryz.func146 rfl ?_
 show awp _ _ _ _ _ (EH _ [.cell 6 74] _)
 simp -implicitDefEqProofs only [BC,A8,A7,AZ,BB,AC,AQ,AO,BD,AX,AL,AA,AY,AU,BZ,BH,EF,FK,CB,BP,wxP,BR,BF,BU,jF,jE,jD,↓reduceIte,jA,jB,jC,enP,PZ _ hx,PZ _ hy,SV]
 refine (pcX (NC G 0 (by omega) _)).use ?_
 simp -implicitDefEqProofs only [AZ,AC,AQ,AO,BD,AX,AL,AA,AY,EF,DC,wxP,BR,↓reduceIte,jA,jB,jC,enP,jJ,SV]
 generalize hX:H ++ [ABlk.live 16 [cW x]] ++ [ABlk.live 16 [cW y]] ++ [ABlk.live 16 [cW (jK 16 0)]]=X
 have hxe:ext H X:=by rw [← hX]; exact (((ext.rfl' H).app _).app _).app _
 have q4:isW X H.length x:=by rw [← hX]; exact BN (BN (CV _ _))
 have q5:isW X (H.length+1) y:=by rw [← hX]; exact BN (GK (by simp))
 have q6:isW X (H.length+2) (jK 16 0):=by rw [← hX]; exact GK (by simp)
 have sX:=s.ext hxe
 have kX:=Kb.ofExt (bb:=bb) hxe
 have e1:(H ++ [ABlk.live 16 [cW x]]).length=H.length+1:=by simp
 have e2:(H ++ [ABlk.live 16 [cW x]] ++ [ABlk.live 16 [cW y]]).length=H.length+2:=by simp
 have e3:X.length=H.length+3:=by rw [← hX]; simp
 rw [e1,e2,e3]
 have sl:=s.lt
 have hst0:FB Tryz.prog (X ++ [ABlk.live 16 [cW (jK 16 0)]]) 74 (.ptr (H.length+3) 0 0) (wA (cst 0))=some (X ++ [ABlk.live 16 [cW (cst 0)]]):=by
  rw [← e3,TV (CV _ _) (by simp) (IY 0),JI]
 simp -implicitDefEqProofs only [BC,CG,A8,A7,AZ,BB,AC,AQ,AO,BD,AX,AL,DK,AU,BH,BG,CJ,jB,jC,hst0]
 have q7:isW (X ++ [ABlk.live 16 [cW (cst 0)]]) (H.length+3) (cst 0):=GK e3
 have q4:isW (X ++ [ABlk.live 16 [cW (cst 0)]]) H.length x:=BN q4
 have q5:isW (X ++ [ABlk.live 16 [cW (cst 0)]]) (H.length+1) y:=BN q5
 have q6:isW (X ++ [ABlk.live 16 [cW (cst 0)]]) (H.length+2) (jK 16 0):=BN q6
 have sX:=sX.app (ABlk.live 16 [cW (cst 0)])
 have kX:=kX.app (ABlk.live 16 [cW (cst 0)])
 have hl3:H.length+3 < (X ++ [ABlk.live 16 [cW (cst 0)]]).length:=by simp; omega
 generalize X ++ [ABlk.live 16 [cW (cst 0)]]=X at q4 q5 q6 q7 sX kX hl3 ⊢
 refine G6 0 (fun F H' => ∃ d l',d.length=16∧TOT=some (d,l')∧PS bb rest l' H'∧Kb bb H H'∧isW H' (H.length+3) d∧isW H' (H.length+2) (jK 16 0)∧F 6 = .ptr (H.length+2) 0 0∧F 7 = .ptr (H.length+3) 0 0) (fun _ _=>False) ?_ ?_ (fun _ _ q=>q.elim)
 ·refine D5 (fun m F H' => ∃ k d l',m+k=16∧d.length=16∧LOk l' d∧ADK x k (y.drop k) d l'=TOT∧Xt l l'∧PS bb rest l' H'∧Kb bb H H'∧isW H' H.length x∧isW H' (H.length+1) y∧isW H' (H.length+2) (jK 16 0)∧isW H' (H.length+3) d∧H.length+3 < H'.length ∧
   F 0 = .ptr bb 0 0∧F 4 = .ptr H.length 0 0∧F 5 = .ptr (H.length+1) 0 0∧F 6 = .ptr (H.length+2) 0 0∧F 7 = .ptr (H.length+3) 0 0∧F 12 = .int .i64 (k:Nat)) 16
   ⟨0,cst 0,l,rfl,IY 0,LOk.cst s.v 0,hT,Xt.rfl' l,sX,kX,q4,q5,q6,q7,hl3,by simp -implicitDefEqProofs only [AA,BF,↓reduceIte,jA],by simp -implicitDefEqProofs only [AA,↓reduceIte,jA],by simp -implicitDefEqProofs only [AA,↓reduceIte,jA],by simp -implicitDefEqProofs only [AA,↓reduceIte,jA],by simp -implicitDefEqProofs only [AA,↓reduceIte,jA],by simp -implicitDefEqProofs only [AA,↓reduceIte]; rfl⟩ ?_
  clear q4 q5 q6 q7 sX kX hl3
  rintro m F H0 ⟨k,s0,l0,hm,hd,od,hS,xl,s',k',q4,q5,q6,q7,hl3,f0,f4,f5,f6,f7,f12⟩
  simp -implicitDefEqProofs only [BC,A8,BI,A7,AZ,BB,AC,AQ,AO,BD,AX,AL,AA,AY,AU,BH,BX,wxP,AB,C9,↓reduceIte,jB,jC,enP,f12,UK]
  refine CX (fun hc => ?_) (fun hc => ?_)
  ·have hk':k < 16:=by simpa using hc
   have hyl:k < y.length:=by omega
   have hyk:=(oy.go xl).getD hyl
   have oxx:=ox.go xl
   rw [KX hyl] at hS
   generalize hyv:y.getD k 0=g at hS hyk
   let K:Wrd→M Wrd:=fun p=>(RD s0 (jK k 0 ++ p) 0).bnd fun s'=>ADK x (k+1) (y.drop (k+1)) s'
   have hS:((AGI ((x.take (16 - k)).drop 0) g).bnd fun r=>K ([] ++ r)) l0=TOT:=hS
   simp -implicitDefEqProofs only [BC,CG,A8,BQ,A7,AZ,BB,AC,AQ,AO,BD,AX,AL,AA,AY,BG,BA,EF,wxP,BR,↓reduceIte,jA,jB,jC,enP,f12,SV]
   generalize hB:H0 ++ [ABlk.live 16 [cW (jK 16 0)]]=B
   have q9:isW B H0.length (jK 16 0):=by rw [← hB]; exact CV _ _
   have q4:isW B H.length x:=by rw [← hB]; exact BN q4
   have q5:isW B (H.length+1) y:=by rw [← hB]; exact BN q5
   have q6:isW B (H.length+2) (jK 16 0):=by rw [← hB]; exact BN q6
   have q7:isW B (H.length+3) s0:=by rw [← hB]; exact BN q7
   have sB:PS bb rest l0 B:=by rw [← hB]; exact s'.app _
   have kB:Kb bb H B:=by rw [← hB]; exact k'.app _
   have hl4:H0.length < B.length:=by rw [← hB]; simp
   clear hB s' k'
   refine G6 2 (fun F H' => ∃ d l',d.length=16 - k∧K d l'=TOT∧LOk l' d∧Xt l0 l'∧PS bb rest l' H'∧Kb bb H H'∧isW H' H.length x∧isW H' (H.length+1) y∧isW H' (H.length+2) (jK 16 0)∧isW H' (H.length+3) s0∧isW H' H0.length (jK k 0 ++ d)∧H.length+3 < H'.length ∧
    F 0 = .ptr bb 0 0∧F 4 = .ptr H.length 0 0∧F 5 = .ptr (H.length+1) 0 0∧F 6 = .ptr (H.length+2) 0 0∧F 7 = .ptr (H.length+3) 0 0∧F 12 = .int .i64 (k:Nat)∧F 9 = .ptr H0.length 0 0) (fun _ _=>False) ?_ ?_ (fun _ _ q=>q.elim)
   ·refine D5 (fun m F H' => ∃ j d l',m+(k+j)=16∧d.length=j∧LOk l' d∧((AGI ((x.take (16 - k)).drop j) g).bnd fun r=>K (d ++ r)) l'=TOT∧Xt l0 l'∧PS bb rest l' H'∧Kb bb H H'∧isW H' H.length x∧isW H' (H.length+1) y∧isW H' (H.length+2) (jK 16 0)∧isW H' (H.length+3) s0∧isW H' H0.length ((jK k 0 ++ d) ++ jK (16 - (k+j)) 0)∧H.length+3 < H'.length∧H0.length < H'.length ∧
     F 0 = .ptr bb 0 0∧F 4 = .ptr H.length 0 0∧F 5 = .ptr (H.length+1) 0 0∧F 6 = .ptr (H.length+2) 0 0∧F 7 = .ptr (H.length+3) 0 0∧F 12 = .int .i64 (k:Nat)∧F 9 = .ptr H0.length 0 0∧F 8 = .int .i64 (k:Nat)∧F 10 = .int .i64 ((k+j:Nat):Int)) (16 - k)
     ⟨0,[],l0,by omega,rfl,LOk.nil _,hS,Xt.rfl' l0,sB,kB,q4,q5,q6,q7,by rw [jD,List.replicate_append_replicate,show k+(16 - (k+0))=16 by omega]; exact q9,by omega,hl4,by simp -implicitDefEqProofs only [AA,↓reduceIte,jA]; exact f0,by simp -implicitDefEqProofs only [AA,↓reduceIte,jA]; exact f4,by simp -implicitDefEqProofs only [AA,↓reduceIte,jA]; exact f5,by simp -implicitDefEqProofs only [AA,↓reduceIte,jA]; exact f6,by simp -implicitDefEqProofs only [AA,↓reduceIte,jA]; exact f7,by simp -implicitDefEqProofs only [AA,↓reduceIte,jA]; exact f12,by simp -implicitDefEqProofs only [AA,↓reduceIte,jA],by simp -implicitDefEqProofs only [AA,↓reduceIte,jA],by simp -implicitDefEqProofs only [AA,↓reduceIte,jI]⟩ ?_
    clear q4 q5 q6 q7 q9 sB kB hl4 f0 f4 f5 f6 f7 f12 hS
    rintro m F H1 ⟨j,d,l1,hm,hdj,od1,hS,x1,s1,k1,q4,q5,q6,q7,q9,hl1,hl2,f0,f4,f5,f6,f7,f12,f9,f8,f10⟩
    simp -implicitDefEqProofs only [BC,A8,BI,A7,AZ,BB,AC,AQ,AO,BD,AX,AL,AA,AY,AU,BH,BG,BX,wxP,AB,C9,↓reduceIte,jB,jC,enP,f10,UK]
    refine CX (fun hc => ?_) (fun hc => ?_)
    ·have hj:k+j < 16:=by simpa using hc
     have hj':j < (x.take (16 - k)).length:=by rw [zQ]; omega
     rw [ARU _ _ _ hj',AM2 _ _ _ (by omega)] at hS
     have hxl:j < x.length:=by omega
     have hxj:=(oxx.go x1).getD hxl
     have hgk:=x1.lt hyk
     have hDl:(jK k 0 ++ d).length=k+j:=by simp [hdj]
     have hsub:IntKind.i64.wrap (((k+j:Nat):Int) - (k:Nat))=((j:Nat):Int):=by rw [wrap_i64 (by omega) (by omega)]; omega
     have ldy:=ldW q5 hyl
     rw [hyv] at ldy
     simp -implicitDefEqProofs only [BC,CG,BQ,A7,f10]
     refine GI (.ones [0,1,2,3,4,5,6,7,8,9] (.alt 10 (.ones [11,12] .done) .non)) (by kernel_rfl) ?_
     simp only [DN,JQ,jQ,jP]
     simp -implicitDefEqProofs only [FC,DT,CZ,D8,DV,ED,EK,IE,ES,A8,A7,ET,AZ,AC,AQ,AO,BD,AX,AL,AA,AY,AU,BZ,BH,BG,BO,BX,CO,CB,BP,wxP,AB,MR,jF,jE,jD,↓reduceIte,jA,jL,jB,jC,enP,f0,f4,f5,f8,f10,hsub,PW (show j < 16 by omega),PW hk',ldW q4 hxl,ldy,GR,GU]
     refine ⟨(J7 G s1 _ _ hxj hgk).use hS hb (hk.trans k1) ?_,trivial⟩
     intro a l2 H2 ea hS2 s2 k2
     obtain ⟨x2,p2⟩:=apX s1.v hxj hgk hgk ea
     have q4:=k2.keep _ _ q4 (by omega)
     have q5:=k2.keep _ _ q5 (by omega)
     have q6:=k2.keep _ _ q6 (by omega)
     have q7:=k2.keep _ _ q7 (by omega)
     have q9:=k2.keep _ _ q9 (by omega)
     have hst:=stW (n:=a) q9 (i:=k+j) (by rw [XZ hDl (by omega)]; exact hj)
     rw [XY hDl hj] at hst
     have kl:=k2.len
     simp -implicitDefEqProofs only [FC,DT,CZ,H9,D8,DV,IX,EX,AZ,BB,AC,AQ,AO,BD,AX,AL,AA,AY,BA,DC,wxP,AB,CJ,DX,↓reduceIte,jA,jG,jB,jC,enP,jJ,GR,GU,f9,f10,PW hj,hst,wrap_succ (show k+j < 9223372036854775807 by omega)]
     have ne : ∀ {c:Nat} {w:Wrd} {B:ABlk},isW H2 c w→c≠H0.length→isW (H2.set H0.length B) c w:=fun q hne=>by unfold isW; rw [jR (Ne.symm hne)]; exact q
     refine ⟨m - 1,by omega,j+1,d ++ [a],l2,by omega,by simp [hdj],(od1.go x2).app (LOk.cons p2 (LOk.nil _)),hS2,x1.trans x2,s2.set (by omega) _,(k1.trans k2).setN (by omega) _,ne q4 (by omega),ne q5 (by omega),ne q6 (by omega),ne q7 (by omega),by rw [← zH]; exact DY q9,by rw [qE]; omega,by rw [qE]; omega,by trivial,by trivial,by trivial,by trivial,by trivial,by trivial,by trivial,by trivial,by trivial⟩
    ·have hj:k+j=16:=by have:=hc; simp at this; omega
     rw [zI (show (x.take (16 - k)).length≤j by rw [zQ]; omega)] at hS
     have hS:K (d ++ []) l1=TOT:=hS
     rw [jD] at hS
     rw [hj,Nat.sub_self,List.replicate_zero,jD] at q9
     simp -implicitDefEqProofs only [DW,EP,KE,FM,AA,↓reduceIte,jA]
     exact ⟨d,l1,by omega,hS,od1,x1,s1,k1,q4,q5,q6,q7,q9,hl1,f0,f4,f5,f6,f7,f12,f9⟩
   ·clear q4 q5 q6 q7 q9 sB kB hl4 f0 f4 f5 f6 f7 f12 hS
    rintro F H1 ⟨d,l1,hdj,hS,od1,x1,s1,k1,q4,q5,q6,q7,q9,hl1,f0,f4,f5,f6,f7,f12,f9⟩
    have hDl:(jK k 0 ++ d).length=16:=by simp [hdj]; omega
    have oD:LOk l1 (jK k 0 ++ d):=(LOk.zeros s1.v k).app od1
    simp -implicitDefEqProofs only [A8,A7,FH,AZ,AC,AQ,AO,BD,AX,AL,AA,AY,AU,BZ,BH,BG,BO,CB,BP,wxP,AB,jF,jE,jD,↓reduceIte,jA,jB,jC,enP,f0,f7,f9,G5 q7 hd,G5 q9 hDl]
    refine (XF G s1 s0 _ 0 hd hDl (od.go x1) oD s1.v.p0).use hS hb (hk.trans k1) ?_
    intro r l2 H2 er hS2 s2 k2
    obtain ⟨_,x2,_,⟨r1,r2⟩,_⟩:=PP s0 _ l1 0 s1.v (by rw [hd,hDl]) (od.go x1) oD s1.v.p0 r l2 er
    have q4:=k2.keep _ _ q4 (by omega)
    have q5:=k2.keep _ _ q5 (by omega)
    have q6:=k2.keep _ _ q6 (by omega)
    have q7:=k2.keep _ _ q7 (by omega)
    have kl:=k2.len
    simp -implicitDefEqProofs only [A8,A7,ET,EX,AZ,BB,AC,AQ,AO,BD,AX,AL,DK,AA,AY,AU,BH,BG,DC,BX,wxP,AB,CJ,DX,↓reduceIte,jA,jB,jC,enP,jJ,f7,TV q7 hd (show r.length=16 by omega),f12,wrap_succ (show k < 9223372036854775807 by omega)]
    have ne : ∀ {c:Nat} {w:Wrd} {B:ABlk},isW H2 c w→c≠H.length+3→isW (H2.set (H.length+3) B) c w:=fun q hne=>by unfold isW; rw [jR (Ne.symm hne)]; exact q
    refine ⟨m - 1,by omega,k+1,r,l2,by omega,by omega,r2,hS2,xl.trans (x1.trans x2),s2.set (by omega) _,(k1.trans k2).setN (by omega) _,ne q4 (by omega),ne q5 (by omega),ne q6 (by omega),DY q7,by rw [qE]; omega,by trivial,by trivial,by trivial,by trivial,by trivial,by trivial⟩
  ·have hk':k=16:=by have:=hc; simp at this; omega
   subst hk'
   rw [zI (show y.length≤16 by omega)] at hS
   have hS:ret s0 l0=TOT:=hS
   simp -implicitDefEqProofs only [DW,EP,KE,FM,AA,↓reduceIte,jA]
   exact ⟨s0,l0,hd,hS.symm,s',k',q7,q6,f6,f7⟩
 ·rintro F H' ⟨d,l',hd,e,s',k',q7,q6,f6,f7⟩
  simp -implicitDefEqProofs only [BC,A8,BK,A7,FH,AZ,BB,AC,AQ,AO,BD,AX,AL,DK,AA,AY,BO,DC,wxP,AB,CJ,↓reduceIte,jA,jB,jC,enP,jJ,f6,f7,G5 q7 hd,TV q6 (by simp) hd]
  rw [IK _ _ _ _ _ _ _ _ _ (show _=AV.ptr (H.length+2) 0 0 by first | exact f6 | (simp -implicitDefEqProofs only [f6])),G5 (DY q6) hd]
  exact ⟨_,rfl,d,l',e,rfl,s'.set (by omega) _,k'.setN (by omega) _⟩
end
def SK (left:Bool):Int:=if left=true then 1 else -1
theorem AT3 {left:Bool} {s i j:Nat} (hi:i < 16) (h:frL left s i=some j):j < 16∧(i:Int) - SK left * s=(j:Nat):=by
 unfold frL at h
 unfold SK
 cases left
 ·rw [if_neg (by simp)] at h
  split at h
  ·cases h; refine ⟨by omega,?_⟩; simp
  ·cases h
 ·rw [if_pos rfl] at h
  split at h
  ·cases h; refine ⟨by omega,?_⟩; simp; omega
  ·cases h
theorem AT4 {left:Bool} {s i:Nat} (h:frL left s i=none):(i:Int) - SK left * s < 0∨16≤(i:Int) - SK left * s:=by
 unfold frL at h
 unfold SK
 cases left
 ·rw [if_neg (by simp)] at h
  split at h
  ·cases h
  ·right; simp; omega
 ·rw [if_pos rfl] at h
  split at h
  ·cases h
  ·left; simp; omega
theorem APG {α:Type} (t:Nat) (x:Wrd) (fr:Nat→Option Nat) (xs:List Nat) (i:Nat) (hi:i < xs.length) (d:Wrd) (K:Wrd→M α):((shI t x fr (xs.drop i) i).bnd fun r=>K (d ++ r))=match fr i with
  | some j=>(KN t (x.getD j 0)).bnd fun a=>(oOr (xs.getD i 0) a).bnd fun b=>(shI t x fr (xs.drop (i+1)) (i+1)).bnd fun r=>K ((d ++ [b]) ++ r)
  | none=>(shI t x fr (xs.drop (i+1)) (i+1)).bnd fun r=>K ((d ++ [xs.getD i 0]) ++ r):=by
 rw [zT hi,getD_at hi]
 cases hf:fr i with
 | some j =>
   rw [show shI t x fr (xs[i] :: xs.drop (i+1)) i=(KN t (x.getD j 0)).bnd fun a=>(oOr xs[i] a).bnd fun b=>(shI t x fr (xs.drop (i+1)) (i+1)).bnd fun s=>ret (b :: s) by rw [shI,hf],IG]
   refine congrArg (M.bnd _) (funext fun a => ?_)
   rw [IG]
   refine congrArg (M.bnd _) (funext fun b => ?_)
   rw [IG]
   refine congrArg (M.bnd _) (funext fun r => ?_)
   show K (d ++ (b :: r))=_
   rw [zH]; rfl
 | none =>
   rw [show shI t x fr (xs[i] :: xs.drop (i+1)) i=(shI t x fr (xs.drop (i+1)) (i+1)).bnd fun s=>ret (xs[i] :: s) by rw [shI,hf],IG]
   refine congrArg (M.bnd _) (funext fun r => ?_)
   show K (d ++ (xs[i] :: r))=_
   rw [zH]; rfl
theorem AVO {x y:Wrd} {l l':Dg} {t r:Nat} (v:VD l) (hl:x.length=y.length) (ox:LOk l x) (oy:LOk l y) (ht:t < l.length) (e:eqL x y t l=some (r,l')):Xt l l'∧r < l'.length:=by
 obtain ⟨_,x1,_,r1,_⟩:=WM x y l t v hl ox oy ht r l' e
 exact ⟨x1,r1⟩
theorem LOk.atD {l:Dg} {xs:List Nat} (v:VD l) (h:LOk l xs) (n:Nat):xs.getD n 0 < l.length:=by
 by_cases hn:n < xs.length
 ·rw [getD_at hn]; exact h.at hn
 ·rw [zK,List.getElem?_eq_none (by omega)]; exact v.p0
section
variable (G:Nat→AV) {bb:Nat} {rest:List AV}
set_option maxHeartbeats 4000000 in
theorem ABS {H:Hp} {l:Dg} (s:PS bb rest l H) (left:Bool) (x y:Wrd) (hx:x.length=16) (hy:y.length=16) (ox:LOk l x) (oy:LOk l y):Ct G bb rest 148 [.ptr bb 0 0,wA x,wA y,.int .i64 (SK left)] H l (shS left x y 16 0 (cst 0)) wA:=by
 intro base Bad hk hb
 generalize hT:shS left x y 16 0 (cst 0) l=TOT at hb
 refine acN Tryz.func148 rfl ?_
 show awp _ _ _ _ _ (EH _ [.cell 8 74] _)
 simp -implicitDefEqProofs only [BC,A8,A7,AZ,BB,AC,AQ,AO,BD,AX,AL,AA,AY,AU,BZ,BH,EF,FK,CB,BP,wxP,BR,BF,BU,jF,jE,jD,↓reduceIte,jA,jB,jC,enP,PZ _ hx,PZ _ hy,SV]
 refine (pcX (NC G 0 (by omega) _)).use ?_
 simp -implicitDefEqProofs only [AZ,AC,AQ,AO,BD,AX,AL,AA,AY,EF,DC,wxP,BR,↓reduceIte,jA,jB,jC,enP,jJ,SV]
 generalize hX:H ++ [ABlk.live 16 [cW x]] ++ [ABlk.live 16 [cW y]] ++ [ABlk.live 16 [cW (jK 16 0)]]=X
 have hxe:ext H X:=by rw [← hX]; exact (((ext.rfl' H).app _).app _).app _
 have q5:isW X H.length x:=by rw [← hX]; exact BN (BN (CV _ _))
 have q6:isW X (H.length+1) y:=by rw [← hX]; exact BN (GK (by simp))
 have q8:isW X (H.length+2) (jK 16 0):=by rw [← hX]; exact GK (by simp)
 have sX:=s.ext hxe
 have kX:=Kb.ofExt (bb:=bb) hxe
 have e1:(H ++ [ABlk.live 16 [cW x]]).length=H.length+1:=by simp
 have e2:(H ++ [ABlk.live 16 [cW x]] ++ [ABlk.live 16 [cW y]]).length=H.length+2:=by simp
 have e3:X.length=H.length+3:=by rw [← hX]; simp
 rw [e1,e2,e3]
 have sl:=s.lt
 have hst0:FB Tryz.prog (X ++ [ABlk.live 16 [cW (jK 16 0)]]) 74 (.ptr (H.length+3) 0 0) (wA (cst 0))=some (X ++ [ABlk.live 16 [cW (cst 0)]]):=by
  rw [← e3,TV (CV _ _) (by simp) (IY 0),JI]
 simp -implicitDefEqProofs only [BC,CG,A8,A7,AZ,BB,AC,AQ,AO,BD,AX,AL,DK,AU,BH,BG,CJ,jB,jC,hst0]
 have q9:isW (X ++ [ABlk.live 16 [cW (cst 0)]]) (H.length+3) (cst 0):=GK e3
 have q5:isW (X ++ [ABlk.live 16 [cW (cst 0)]]) H.length x:=BN q5
 have q6:isW (X ++ [ABlk.live 16 [cW (cst 0)]]) (H.length+1) y:=BN q6
 have q8:isW (X ++ [ABlk.live 16 [cW (cst 0)]]) (H.length+2) (jK 16 0):=BN q8
 have sX:=sX.app (ABlk.live 16 [cW (cst 0)])
 have kX:=kX.app (ABlk.live 16 [cW (cst 0)])
 generalize X ++ [ABlk.live 16 [cW (cst 0)]]=X at q5 q6 q8 q9 sX kX ⊢
 refine G6 0 (fun F H' => ∃ d l',d.length=16∧TOT=some (d,l')∧PS bb rest l' H'∧Kb bb H H'∧isW H' (H.length+3) d∧isW H' (H.length+2) (jK 16 0)∧F 8 = .ptr (H.length+2) 0 0∧F 9 = .ptr (H.length+3) 0 0) (fun _ _=>False) ?_ ?_ (fun _ _ q=>q.elim)
 ·refine D5 (fun m F H' => ∃ k d l',m+k=16∧d.length=16∧LOk l' d∧shS left x y m k d l'=TOT∧Xt l l'∧PS bb rest l' H'∧Kb bb H H'∧isW H' H.length x∧isW H' (H.length+1) y∧isW H' (H.length+2) (jK 16 0)∧isW H' (H.length+3) d ∧
   F 0 = .ptr bb 0 0∧F 3 = .int .i64 (SK left)∧F 5 = .ptr H.length 0 0∧F 6 = .ptr (H.length+1) 0 0∧F 8 = .ptr (H.length+2) 0 0∧F 9 = .ptr (H.length+3) 0 0∧F 15 = .int .i64 (k:Nat)) 16
   ⟨0,cst 0,l,rfl,IY 0,LOk.cst s.v 0,hT,Xt.rfl' l,sX,kX,q5,q6,q8,q9,by simp -implicitDefEqProofs only [AA,BF,↓reduceIte,jA],by simp -implicitDefEqProofs only [AA,BF,BU,↓reduceIte,jA],by simp -implicitDefEqProofs only [AA,↓reduceIte,jA],by simp -implicitDefEqProofs only [AA,↓reduceIte,jA],by simp -implicitDefEqProofs only [AA,↓reduceIte,jA],by simp -implicitDefEqProofs only [AA,↓reduceIte,jA],by simp -implicitDefEqProofs only [AA,↓reduceIte]; rfl⟩ ?_
  clear q5 q6 q8 q9 sX kX
  rintro m F H0 ⟨k,s0,l0,hm,hd,od,hS,xl,s',k',q5,q6,q8,q9,f0,f3,f5,f6,f8,f9,f15⟩
  simp -implicitDefEqProofs only [BC,A8,BI,A7,AZ,BB,AC,AQ,AO,BD,AX,AL,AA,AY,AU,BH,BX,wxP,AB,C9,↓reduceIte,jB,jC,enP,f15,UK]
  refine CX (fun hc => ?_) (fun hc => ?_)
  ·have hk':k < 16:=by simpa using hc
   obtain ⟨m,rfl⟩ : ∃ m',m=m'+1:=⟨m - 1,by omega⟩
   have oxx:=ox.go xl
   have oyy:=oy.go xl
   have hS:((eqL y (cst k) 1).bnd fun t=>(shI t x (frL left k) s0 0).bnd fun out'=>shS left x y m (k+1) out') l0=TOT:=hS
   have ock:=LOk.cst s'.v k
   simp -implicitDefEqProofs only [BC,CG,A8,BQ,A7,AZ,BB,AC,AQ,AO,BD,AX,AL,AA,AY,BG,BA,↓reduceIte,jA,jB,jC,f15]
   refine GI (.ones [0,2,3,1] (.alt 4 (.ones [5] .done) .non)) (by kernel_rfl) ?_
   simp only [DN,JQ,jQ,jP]
   simp -implicitDefEqProofs only [FC,DT,CZ,D8,DV,ED,GN,EK,IB,GZ,BC,CG,A8,A7,AZ,BB,AC,AQ,AO,BD,AX,AL,AA,AY,AU,BZ,BH,BG,BO,CB,BP,wxP,AB,jF,jE,jD,↓reduceIte,jA,jL,jB,jC,enP,f0,f6,G5 q6 hy,GR,GU]
   refine ⟨_,pcX (NC G k (by omega) H0),?_⟩
   refine ⟨(UR G s' y (cst k) hy (IY k) oyy ock).use hS hb (hk.trans k') ?_,trivial⟩
   intro t l1 H1 et hS s1 k1
   obtain ⟨x1,pt⟩:=AVO s'.v (by rw [hy,IY]) oyy ock s'.v.p1 et
   have b1:=s'.lt
   have kl:=k'.len
   have q5:=k1.keep _ _ q5 (by omega)
   have q6:=k1.keep _ _ q6 (by omega)
   have q8:=k1.keep _ _ q8 (by omega)
   have q9:=k1.keep _ _ q9 (by omega)
   have k1:=k'.trans k1
   have oxx:=oxx.go x1
   have od:=od.go x1
   let K:Wrd→M Wrd:=fun out'=>shS left x y m (k+1) out'
   have hS:((shI t x (frL left k) (s0.drop 0) 0).bnd fun r=>K ([] ++ r)) l1=TOT:=hS
   simp -implicitDefEqProofs only [AA,↓reduceIte,GR,GU]
   refine G6 2 (fun F H' => ∃ d l',d.length=16∧K d l'=TOT∧LOk l' d∧Xt l1 l'∧PS bb rest l' H'∧Kb bb H H'∧isW H' H.length x∧isW H' (H.length+1) y∧isW H' (H.length+2) (jK 16 0)∧isW H' (H.length+3) d ∧
    F 0 = .ptr bb 0 0∧F 3 = .int .i64 (SK left)∧F 5 = .ptr H.length 0 0∧F 6 = .ptr (H.length+1) 0 0∧F 8 = .ptr (H.length+2) 0 0∧F 9 = .ptr (H.length+3) 0 0∧F 15 = .int .i64 (k:Nat)) (fun _ _=>False) ?_ ?_ (fun _ _ q=>q.elim)
   ·refine D5 (fun n F H' => ∃ i d l',n+i=16∧d.length=i∧LOk l' d∧((shI t x (frL left k) (s0.drop i) i).bnd fun r=>K (d ++ r)) l'=TOT∧Xt l1 l'∧PS bb rest l' H'∧Kb bb H H'∧isW H' H.length x∧isW H' (H.length+1) y∧isW H' (H.length+2) (jK 16 0)∧isW H' (H.length+3) (d ++ s0.drop i) ∧
     F 0 = .ptr bb 0 0∧F 3 = .int .i64 (SK left)∧F 5 = .ptr H.length 0 0∧F 6 = .ptr (H.length+1) 0 0∧F 8 = .ptr (H.length+2) 0 0∧F 9 = .ptr (H.length+3) 0 0∧F 15 = .int .i64 (k:Nat)∧F 10 = .int .i64 (k:Nat)∧F 11=iA t∧F 23 = .int .i64 (i:Nat)) 16
     ⟨0,[],l1,rfl,rfl,LOk.nil _,hS,Xt.rfl' l1,s1,k1,q5,q6,q8,q9,by simp -implicitDefEqProofs only [AA,↓reduceIte,jA]; exact f0,by simp -implicitDefEqProofs only [AA,↓reduceIte,jA]; exact f3,by simp -implicitDefEqProofs only [AA,↓reduceIte,jA]; exact f5,by simp -implicitDefEqProofs only [AA,↓reduceIte,jA]; exact f6,by simp -implicitDefEqProofs only [AA,↓reduceIte,jA]; exact f8,by simp -implicitDefEqProofs only [AA,↓reduceIte,jA]; exact f9,by simp -implicitDefEqProofs only [AA,↓reduceIte,jA]; exact f15,by simp -implicitDefEqProofs only [AA,↓reduceIte,jA],by simp -implicitDefEqProofs only [AA,↓reduceIte,jA],by simp -implicitDefEqProofs only [AA,↓reduceIte]; rfl⟩ ?_
    clear q5 q6 q8 q9 s1 k1 f0 f3 f5 f6 f8 f9 f15 hS
    rintro n F H1 ⟨i,d,l2,hn,hdi,odd,hS,x2,s2,k2,q5,q6,q8,q9,f0,f3,f5,f6,f8,f9,f15,f10,f11,f23⟩
    simp -implicitDefEqProofs only [BC,A8,BI,A7,AZ,BB,AC,AQ,AO,BD,AX,AL,AA,AY,AU,BH,BX,wxP,AB,C9,↓reduceIte,jB,jC,enP,f23,UK]
    refine CX (fun hc => ?_) (fun hc => ?_)
    ·have hi:i < 16:=by simpa using hc
     rw [APG _ _ _ _ _ (by omega)] at hS
     rw [KX (show i < s0.length by omega)] at q9
     have oxx:=oxx.go x2
     have hti:=x2.lt pt
     have hoi:=(od.go x2).atD s2.v i
     have hmul:IntKind.i64.wrap (SK left * (k:Nat))=SK left * (k:Nat):=by
      have:SK left=1∨SK left = -1:=by unfold SK; cases left <;> simp
      rcases this with e | e <;> rw [e] <;> rw [wrap_i64 (by omega) (by omega)]
     have hsub:IntKind.i64.wrap ((i:Nat) - SK left * (k:Nat))=(i:Nat) - SK left * (k:Nat):=by
      have:SK left=1∨SK left = -1:=by unfold SK; cases left <;> simp
      rcases this with e | e <;> rw [e] <;> rw [wrap_i64 (by omega) (by omega)]
     cases hf:frL left k i with
     | none =>
       rw [hf] at hS
       have hn2:=AT4 hf
       obtain ⟨z,hz⟩ : ∃ z,z=(i:Int) - SK left * (k:Nat):=⟨_,rfl⟩
       rw [← hz] at hn2
       have hsub:=hsub.trans hz.symm
       simp -implicitDefEqProofs only [BC,CG,A8,BQ,A7,AZ,BB,BM,CE,CQ,AC,AQ,AO,BD,AX,AL,AA,AY,AU,BH,BG,BA,BX,wxP,AB,MR,AMP,F7,↓reduceIte,jA,jB,jC,enP,f3,f10,f23,hmul,hsub]
       refine J3 (fun hx => ?_) (fun hx => ?_)
       ·have e16:decide (z < 16)=false:=by have:z≥0:=by simpa using hx
                                           simp; omega
        simp -implicitDefEqProofs only [A8,BQ,BI,A7,ET,D9,AZ,BB,BM,CE,CQ,FY,AC,AQ,AO,BD,AX,AL,AA,AY,AU,BH,BL,BG,CS,DL,BX,wxP,AB,C9,↓reduceIte,jA,jB,jC,enP,hx,e16]
        simp -implicitDefEqProofs only [EX,AZ,BB,AC,AQ,AO,BD,AX,AL,AA,AY,BG,AB,DX,↓reduceIte,jA,jB,jC,f23,wrap_succ (show i < 9223372036854775807 by omega)]
        refine ⟨n - 1,by omega,i+1,d ++ [s0.getD i 0],l2,by omega,by simp [hdi],odd.app (LOk.cons hoi (LOk.nil _)),hS,x2,s2,k2,q5,q6,q8,by rw [zH]; exact q9,by trivial,by trivial,by trivial,by trivial,by trivial,by trivial,by trivial,by trivial,by trivial,by trivial⟩
       ·simp -implicitDefEqProofs only [A8,BQ,BI,A7,ET,D9,AZ,BB,BM,CE,CQ,I7,AC,AQ,AO,BD,AX,AL,AA,EO,AY,AU,BH,BL,CS,DU,BX,wxP,↓reduceIte,jA,jB,jC,enP,hx]
        simp -implicitDefEqProofs only [EX,AZ,BB,AC,AQ,AO,BD,AX,AL,AA,AY,BG,AB,DX,↓reduceIte,jA,jB,jC,f23,wrap_succ (show i < 9223372036854775807 by omega)]
        refine ⟨n - 1,by omega,i+1,d ++ [s0.getD i 0],l2,by omega,by simp [hdi],odd.app (LOk.cons hoi (LOk.nil _)),hS,x2,s2,k2,q5,q6,q8,by rw [zH]; exact q9,by trivial,by trivial,by trivial,by trivial,by trivial,by trivial,by trivial,by trivial,by trivial,by trivial⟩
     | some j =>
       rw [hf] at hS
       obtain ⟨hj,ej⟩:=AT3 hi hf
       have hsub:=hsub.trans ej
       have e0:decide (((j:Nat):Int)≥0)=true:=by simp
       have e16:decide (((j:Nat):Int) < 16)=true:=by simp; omega
       simp -implicitDefEqProofs only [BC,CG,A8,BQ,BI,A7,AZ,BB,BM,CE,CQ,FY,AC,AQ,AO,BD,AX,AL,AA,AY,AU,BH,BL,BG,BA,CS,DL,BX,wxP,AB,MR,AMP,C9,F7,↓reduceIte,jA,jB,jC,enP,f3,f10,f23,hmul,hsub,e0]
       simp -implicitDefEqProofs only [D6,e16]
       refine GI (.ones [0,1,2,5,6,7,8,9] (.alt 3 (.alt 4 (.alt 10 (.alt 11 (.ones [12,13] .done) .non) .non) (.alt 10 (.ones [4] (.alt 11 (.ones [12,13] .done) .non)) .non)) (.alt 10 (.ones [3,4] (.alt 11 (.ones [12,13] .done) .non)) .non))) (by kernel_rfl) ?_
       simp only [DN,JQ,jQ,jP]
       have hlq:i < (d ++ s0.getD i 0 :: s0.drop (i+1)).length:=by simp [hdi]
       have hld0:=ldW q9 (i:=i) hlq
       rw [SG hdi] at hld0
       simp -implicitDefEqProofs only [FC,DT,CZ,D8,DV,ED,EK,ES,A8,A7,ET,AZ,AC,AQ,AO,BD,AX,AA,AY,AU,BZ,BH,BO,BX,CO,CB,BP,wxP,AB,jF,jE,jD,↓reduceIte,jA,jL,jB,jC,enP,f0,f5,f9,f11,f23,hsub,PW hi,PW hj,ldW q5 (show j < x.length by omega),hld0,GR,GU]
       refine ⟨⟨⟨?_,trivial⟩,?_,trivial⟩,?_,trivial⟩
       ·refine (J7 G s2 t _ hti (oxx.atD s2.v j)).use hS hb (hk.trans k2) ?_
        intro a l3 H3 ea hS s3 k3
        obtain ⟨x3,pa⟩:=apX s2.v hti (oxx.atD s2.v j) (oxx.atD s2.v j) ea
        have k3':=k2.trans k3
        have q5:=k3.keep _ _ q5 (by omega)
        have q6:=k3.keep _ _ q6 (by omega)
        have q8:=k3.keep _ _ q8 (by omega)
        have q9:=k3.keep _ _ q9 (by omega)
        have hld:=ldW q9 (i:=i) hlq
        rw [SG hdi] at hld
        simp -implicitDefEqProofs only [AA,↓reduceIte,jA,f0,f9,PW hi,hld,GR,GU]
        refine ⟨(MP G s3 _ _ (x3.lt hoi) pa).use hS hb (hk.trans k3') ?_ ,trivial⟩
        intro b l4 H4 eb hS s4 k4
        obtain ⟨x4,pb⟩:=apX s3.v (x3.lt hoi) pa pa eb
        have k4':=k3'.trans k4
        have q5:=k4.keep _ _ q5 (by omega)
        have q6:=k4.keep _ _ q6 (by omega)
        have q8:=k4.keep _ _ q8 (by omega)
        have q9:=k4.keep _ _ q9 (by omega)
        have hst:=stW (n:=b) q9 (i:=i) hlq
        rw [set_mid hdi] at hst
        have ne : ∀ {c:Nat} {w:Wrd} {B:ABlk},isW H4 c w→c≠H.length+3→isW (H4.set (H.length+3) B) c w:=fun q hne=>by unfold isW; rw [jR (Ne.symm hne)]; exact q
        simp -implicitDefEqProofs only [FC,DT,CZ,H9,D8,DV,IX,EX,AZ,BB,AC,AQ,AO,BD,AX,AL,AA,AY,BG,DC,wxP,AB,CJ,DX,↓reduceIte,jA,jG,jB,jC,enP,jJ,f9,PW hi,hst,GR,GU,f23,wrap_succ (show i < 9223372036854775807 by omega)]
        have x34:=x3.trans x4
        exact ⟨n - 1,by omega,i+1,d ++ [b],l4,by omega,by simp [hdi],(odd.go x34).app (LOk.cons pb (LOk.nil _)),hS,x2.trans x34,s4.set (by omega) _,k4'.setN (by omega) _,ne q5 (by omega),ne q6 (by omega),ne q8 (by omega),DY q9,by trivial,by trivial,by trivial,by trivial,by trivial,by trivial,by trivial,by trivial,by trivial,by trivial⟩
       ·refine (J7 G s2 t _ hti (oxx.atD s2.v j)).use hS hb (hk.trans k2) ?_
        intro a l3 H3 ea hS s3 k3
        obtain ⟨x3,pa⟩:=apX s2.v hti (oxx.atD s2.v j) (oxx.atD s2.v j) ea
        have k3':=k2.trans k3
        have q5:=k3.keep _ _ q5 (by omega)
        have q6:=k3.keep _ _ q6 (by omega)
        have q8:=k3.keep _ _ q8 (by omega)
        have q9:=k3.keep _ _ q9 (by omega)
        have hld:=ldW q9 (i:=i) hlq
        rw [SG hdi] at hld
        simp -implicitDefEqProofs only [CZ,D8,AA,AB,↓reduceIte,jA,f0,f9,PW hi,hld,GR,GU]
        refine ⟨(MP G s3 _ _ (x3.lt hoi) pa).use hS hb (hk.trans k3') ?_ ,trivial⟩
        intro b l4 H4 eb hS s4 k4
        obtain ⟨x4,pb⟩:=apX s3.v (x3.lt hoi) pa pa eb
        have k4':=k3'.trans k4
        have q5:=k4.keep _ _ q5 (by omega)
        have q6:=k4.keep _ _ q6 (by omega)
        have q8:=k4.keep _ _ q8 (by omega)
        have q9:=k4.keep _ _ q9 (by omega)
        have hst:=stW (n:=b) q9 (i:=i) hlq
        rw [set_mid hdi] at hst
        have ne : ∀ {c:Nat} {w:Wrd} {B:ABlk},isW H4 c w→c≠H.length+3→isW (H4.set (H.length+3) B) c w:=fun q hne=>by unfold isW; rw [jR (Ne.symm hne)]; exact q
        simp -implicitDefEqProofs only [FC,DT,CZ,H9,D8,DV,IX,EX,AZ,BB,AC,AQ,AO,BD,AX,AL,AA,AY,BG,DC,wxP,AB,CJ,DX,↓reduceIte,jA,jG,jB,jC,enP,jJ,f9,PW hi,hst,GR,GU,f23,wrap_succ (show i < 9223372036854775807 by omega)]
        have x34:=x3.trans x4
        exact ⟨n - 1,by omega,i+1,d ++ [b],l4,by omega,by simp [hdi],(odd.go x34).app (LOk.cons pb (LOk.nil _)),hS,x2.trans x34,s4.set (by omega) _,k4'.setN (by omega) _,ne q5 (by omega),ne q6 (by omega),ne q8 (by omega),DY q9,by trivial,by trivial,by trivial,by trivial,by trivial,by trivial,by trivial,by trivial,by trivial,by trivial⟩
       ·refine (J7 G s2 t _ hti (oxx.atD s2.v j)).use hS hb (hk.trans k2) ?_
        intro a l3 H3 ea hS s3 k3
        obtain ⟨x3,pa⟩:=apX s2.v hti (oxx.atD s2.v j) (oxx.atD s2.v j) ea
        have k3':=k2.trans k3
        have q5:=k3.keep _ _ q5 (by omega)
        have q6:=k3.keep _ _ q6 (by omega)
        have q8:=k3.keep _ _ q8 (by omega)
        have q9:=k3.keep _ _ q9 (by omega)
        have hld:=ldW q9 (i:=i) hlq
        rw [SG hdi] at hld
        simp -implicitDefEqProofs only [FC,DT,CZ,D8,DV,EK,AC,AA,AY,BO,wxP,AB,↓reduceIte,jA,jL,jB,enP,f0,f9,PW hi,hld,GR,GU]
        refine ⟨(MP G s3 _ _ (x3.lt hoi) pa).use hS hb (hk.trans k3') ?_ ,trivial⟩
        intro b l4 H4 eb hS s4 k4
        obtain ⟨x4,pb⟩:=apX s3.v (x3.lt hoi) pa pa eb
        have k4':=k3'.trans k4
        have q5:=k4.keep _ _ q5 (by omega)
        have q6:=k4.keep _ _ q6 (by omega)
        have q8:=k4.keep _ _ q8 (by omega)
        have q9:=k4.keep _ _ q9 (by omega)
        have hst:=stW (n:=b) q9 (i:=i) hlq
        rw [set_mid hdi] at hst
        have ne : ∀ {c:Nat} {w:Wrd} {B:ABlk},isW H4 c w→c≠H.length+3→isW (H4.set (H.length+3) B) c w:=fun q hne=>by unfold isW; rw [jR (Ne.symm hne)]; exact q
        simp -implicitDefEqProofs only [FC,DT,CZ,H9,D8,DV,IX,EX,AZ,BB,AC,AQ,AO,BD,AX,AL,AA,AY,BG,DC,wxP,AB,CJ,DX,↓reduceIte,jA,jG,jB,jC,enP,jJ,f9,PW hi,hst,GR,GU,f23,wrap_succ (show i < 9223372036854775807 by omega)]
        have x34:=x3.trans x4
        exact ⟨n - 1,by omega,i+1,d ++ [b],l4,by omega,by simp [hdi],(odd.go x34).app (LOk.cons pb (LOk.nil _)),hS,x2.trans x34,s4.set (by omega) _,k4'.setN (by omega) _,ne q5 (by omega),ne q6 (by omega),ne q8 (by omega),DY q9,by trivial,by trivial,by trivial,by trivial,by trivial,by trivial,by trivial,by trivial,by trivial,by trivial⟩
    ·have hi:i=16:=by have:=hc; simp at this; omega
     subst hi
     rw [zI (show s0.length≤16 by omega)] at hS q9
     have hS:K (d ++ []) l2=TOT:=hS
     rw [jD] at hS q9
     simp -implicitDefEqProofs only [DW,EP,KE,FM,AA,↓reduceIte,jA]
     exact ⟨d,l2,hdi,hS,odd,x2,s2,k2,q5,q6,q8,q9,f0,f3,f5,f6,f8,f9,f15⟩
   ·clear q5 q6 q8 q9 s1 k1 f0 f3 f5 f6 f8 f9 f15 hS
    rintro F H1 ⟨d,l2,hdi,hS,odd,x2,s2,k2,q5,q6,q8,q9,f0,f3,f5,f6,f8,f9,f15⟩
    simp -implicitDefEqProofs only [A8,A7,ET,FH,EX,AZ,BB,AC,AQ,AO,BD,AX,AL,AA,AY,AU,BH,BG,BX,wxP,AB,DX,↓reduceIte,jA,jB,jC,enP,f15,wrap_succ (show k < 9223372036854775807 by omega)]
    exact ⟨m,by omega,k+1,d,l2,by omega,hdi,odd,hS,xl.trans (x1.trans x2),s2,k2,q5,q6,q8,q9,by trivial,by trivial,by trivial,by trivial,by trivial,by trivial,by trivial⟩
  ·have hk':k=16:=by have:=hc; simp at this; omega
   subst hk'
   have:m=0:=by omega
   subst this
   have hS:ret s0 l0=TOT:=hS
   simp -implicitDefEqProofs only [DW,EP,KE,FM,AA,↓reduceIte,jA]
   exact ⟨s0,l0,hd,hS.symm,s',k',q9,q8,f8,f9⟩
 ·rintro F H' ⟨d,l',hd,e,s',k',q9,q8,f8,f9⟩
  simp -implicitDefEqProofs only [BC,A8,BK,A7,FH,AZ,BB,AC,AQ,AO,BD,AX,AL,DK,AA,AY,BO,DC,wxP,AB,CJ,↓reduceIte,jA,jB,jC,enP,jJ,f8,f9,G5 q9 hd,TV q8 (by simp) hd]
  rw [IK _ _ _ _ _ _ _ _ _ (show _=AV.ptr (H.length+2) 0 0 by first | exact f8 | (simp -implicitDefEqProofs only [f8])),G5 (DY q8) hd]
  exact ⟨_,rfl,d,l',e,rfl,s'.set (by omega) _,k'.setN (by omega) _⟩
end
def lgL (op:Int) (x y:Wrd):M Wrd:=(trL x 0).bnd fun s=>(trL y 0).bnd fun t=>if op=19 then (KN s t).bnd fun r=>ret (sgl r) else if op=20 then (oOr s t).bnd fun r=>ret (sgl r) else (NZ s).bnd fun n=>(oOr n t).bnd fun r=>ret (sgl r)
def cpL (op:Int) (x y:Wrd):M Wrd:=if op=15 then (eqL x y 1).bnd fun r=>ret (sgl r) else if op=16 then (eqL x y 1).bnd fun e=>(NZ e).bnd fun r=>ret (sgl r) else if op=17 then (lsL x y 0).bnd fun r=>ret (sgl r) else (lsL y x 0).bnd fun e=>(NZ e).bnd fun r=>ret (sgl r)
def OB (op:Int) (x y:Wrd):M Wrd:=if op=7 then RD x y 0 else if op=8 then AIF x y else if op=9 then ADK x 0 y (cst 0) else if op=10 then pr2 KN x y else if op=11 then pr2 oOr x y else if op=12 then pr2 O8 x y else
 if op=13 then shS true x y 16 0 (cst 0) else if op=14 then shS false x y 16 0 (cst 0) else if op=19∨op=20∨op=21 then lgL op x y else cpL op x y
theorem AD1 {x:Wrd} {l l':Dg} {t r:Nat} (v:VD l) (ox:LOk l x) (ht:t < l.length) (e:trL x t l=some (r,l')):Xt l l'∧r < l'.length:=by
 obtain ⟨_,x1,_,r1,_⟩:=TB x l t v ox ht r l' e
 exact ⟨x1,r1⟩
section
variable (G:Nat→AV) {bb:Nat} {rest:List AV}
theorem RI {H H':Hp} {l:Dg} {w:Wrd} {c:Nat} (hw:w.length=16) (s:PS bb rest l H') (k:Kb bb H H') (hc:H.length≤c) (hcb:c≠bb) {z:Wrd} (hz:z.length=16) (q:isW H' c z) :
  FB Tryz.prog H' 74 (.ptr c 0 0) (wA w)=some (H'.set c (.live 16 [cW w]))∧isW (H'.set c (.live 16 [cW w])) c w∧PS bb rest l (H'.set c (.live 16 [cW w]))∧Kb bb H (H'.set c (.live 16 [cW w])) :=
 ⟨TV q hz hw,DY q,s.set hcb _,k.setN hc _⟩
theorem WC {H:Hp} {l:Dg} (s:PS bb rest l H) (op:Int) (hop:op=19∨op=20∨op=21) (x y:Wrd) (hx:x.length=16) (hy:y.length=16) (ox:LOk l x) (oy:LOk l y):Ct G bb rest 149 [.ptr bb 0 0,.int .i64 op,wA x,wA y] H l (lgL op x y) wA:=by
 intro base Bad hk hb
 generalize hT:lgL op x y l=TOT at hb
 refine acN Tryz.func149 rfl ?_
 show awp _ _ _ _ _ (EH _ [.cell 8 74] _)
 simp -implicitDefEqProofs only [BC,A8,A7,AZ,BB,AC,AQ,AO,BD,AX,AL,AA,AY,BG,EF,FK,BO,wxP,BR,BF,BU,↓reduceIte,jA,jB,jC,enP,PZ _ hx,PZ _ hy,SV]
 generalize hX:H ++ [ABlk.live 16 [cW x]] ++ [ABlk.live 16 [cW y]] ++ [ABlk.live 16 [cW (jK 16 0)]]=X
 have hxe:ext H X:=by rw [← hX]; exact (((ext.rfl' H).app _).app _).app _
 have q6:isW X H.length x:=by rw [← hX]; exact BN (BN (CV _ _))
 have q7:isW X (H.length+1) y:=by rw [← hX]; exact BN (GK (by simp))
 have q8:isW X (H.length+2) (jK 16 0):=by rw [← hX]; exact GK (by simp)
 have sX:=s.ext hxe
 have kX:=Kb.ofExt (bb:=bb) hxe
 have e1:(H ++ [ABlk.live 16 [cW x]]).length=H.length+1:=by simp
 have e2:(H ++ [ABlk.live 16 [cW x]] ++ [ABlk.live 16 [cW y]]).length=H.length+2:=by simp
 rw [e1,e2]
 clear hX hxe
 have sl:=s.lt
 simp -implicitDefEqProofs only [AZ,AC,AQ,AO,BD,AX,AL,AA,AY,BZ,CB,BP,AB,jF,jE,jD,↓reduceIte,jA,jB,jC,G5 q6 hx]
 refine (MW G sX x hx ox).use hT hb (hk.trans kX) ?_
 intro r1 l1 H1 e1 hS s1 k1
 obtain ⟨x1,p1⟩:=AD1 s.v ox s.v.p0 e1
 have q7:=k1.keep _ _ q7 (by omega)
 have q8:=k1.keep _ _ q8 (by omega)
 have k1:=kX.trans k1
 simp -implicitDefEqProofs only [BC,A8,A7,AZ,BB,AC,AQ,AO,BD,AX,AL,AA,AY,BZ,BG,BA,BO,CB,BP,wxP,AB,BF,jF,jE,jD,↓reduceIte,jA,jB,jC,enP,G5 q7 hy]
 refine (MW G s1 y hy (oy.go x1)).use hS hb (hk.trans k1) ?_
 intro r2 l2 H2 e2 hS s2 k2
 obtain ⟨x2,p2⟩:=AD1 s1.v (oy.go x1) s1.v.p0 e2
 have q8:=k2.keep _ _ q8 (by omega)
 have k2:=k1.trans k2
 have p1:=x2.lt p1
 rcases hop with rfl | rfl | rfl
 ·rw [if_pos rfl] at hS
  simp -implicitDefEqProofs only [BC,CG,A8,BI,A7,D6,AZ,BB,AC,AQ,AO,BD,AX,AL,AA,AY,AU,BZ,BH,BG,BA,BX,CB,BP,wxP,AB,EC,BF,BU,jF,jE,jD,↓reduceIte,jA,jB,jC,enP,zX]
  refine (J7 G s2 _ _ p1 p2).use hS hb (hk.trans k2) ?_
  intro r3 l3 H3 e3 hS s3 k3
  have hS:ret (sgl r3) l3=TOT:=hS
  have q8:=k3.keep _ _ q8 (by omega)
  obtain ⟨f1,f2,f3,f4⟩:=RI (JU r3) s3 (k2.trans k3) (c:=H.length+2) (by omega) (by omega) (by simp) q8
  simp -implicitDefEqProofs only [AZ,AC,AQ,AO,BD,AX,AL,AA,AY,BZ,CB,BP,jF,jE,jD,↓reduceIte,jB,jC]
  refine (pcX (JL G r3 H3)).use ?_
  simp -implicitDefEqProofs only [BK,A7,CW,EN,AZ,BB,AC,AQ,AO,BD,AX,AL,DK,AA,AY,DC,wxP,CJ,↓reduceIte,jA,jC,enP,jJ,f1]
  rw [IK _ _ _ _ _ _ _ _ _ (show _=AV.ptr (H.length+2) 0 0 by simp -implicitDefEqProofs only [AA,↓reduceIte,jA]),G5 f2 (JU r3)]
  exact ⟨_,rfl,_,_,hS.symm,rfl,f3,f4⟩
 ·rw [if_neg (by decide),if_pos rfl] at hS
  simp -implicitDefEqProofs only [BC,CG,A8,BI,A7,D6,D9,AZ,BB,AC,AQ,AO,BD,AX,AL,AA,AY,AU,BZ,BH,BG,BA,BX,CB,BP,wxP,AB,EC,BF,BU,jF,jE,jD,↓reduceIte,jA,jB,jC,enP,zX]
  refine (MP G s2 _ _ p1 p2).use hS hb (hk.trans k2) ?_
  intro r3 l3 H3 e3 hS s3 k3
  have hS:ret (sgl r3) l3=TOT:=hS
  have q8:=k3.keep _ _ q8 (by omega)
  obtain ⟨f1,f2,f3,f4⟩:=RI (JU r3) s3 (k2.trans k3) (c:=H.length+2) (by omega) (by omega) (by simp) q8
  simp -implicitDefEqProofs only [AZ,AC,AQ,AO,BD,AX,AL,AA,AY,BZ,CB,BP,jF,jE,jD,↓reduceIte,jB,jC]
  refine (pcX (JL G r3 H3)).use ?_
  simp -implicitDefEqProofs only [BK,A7,CW,EN,AZ,BB,AC,AQ,AO,BD,AX,AL,DK,AA,AY,DC,wxP,CJ,↓reduceIte,jA,jC,enP,jJ,f1]
  rw [IK _ _ _ _ _ _ _ _ _ (show _=AV.ptr (H.length+2) 0 0 by simp -implicitDefEqProofs only [AA,↓reduceIte,jA]),G5 f2 (JU r3)]
  exact ⟨_,rfl,_,_,hS.symm,rfl,f3,f4⟩
 ·rw [if_neg (by decide),if_neg (by decide)] at hS
  simp -implicitDefEqProofs only [BC,CG,A8,BQ,BI,A7,ET,D9,AZ,BB,AC,AQ,AO,BD,AX,AL,AA,AY,AU,BZ,BH,BG,BA,BX,CB,BP,wxP,AB,EC,BF,BU,jF,jE,jD,↓reduceIte,jA,jB,jC,enP,zX]
  refine (KJ G s2 _ p1).use hS hb (hk.trans k2) ?_
  intro r3 l3 H3 e3 hS s3 k3
  obtain ⟨x3,p3⟩:=apX s2.v p1 p1 p1 e3
  have q8:=k3.keep _ _ q8 (by omega)
  have k3:=k2.trans k3
  simp -implicitDefEqProofs only [AZ,AC,AQ,AO,BD,AX,AL,AA,AY,BZ,BG,CB,BP,jF,jE,jD,↓reduceIte,jA,jB,jC]
  refine (MP G s3 _ _ p3 (x3.lt p2)).use hS hb (hk.trans k3) ?_
  intro r4 l4 H4 e4 hS s4 k4
  have hS:ret (sgl r4) l4=TOT:=hS
  have q8:=k4.keep _ _ q8 (by omega)
  obtain ⟨f1,f2,f3,f4⟩:=RI (JU r4) s4 (k3.trans k4) (c:=H.length+2) (by omega) (by omega) (by simp) q8
  simp -implicitDefEqProofs only [AZ,AC,AQ,AO,BD,AX,AL,AA,AY,BZ,CB,BP,jF,jE,jD,↓reduceIte,jB,jC]
  refine (pcX (JL G r4 H4)).use ?_
  simp -implicitDefEqProofs only [BK,A7,AZ,BB,AC,AQ,AO,BD,AX,AL,DK,AA,AY,DC,wxP,CJ,↓reduceIte,jA,jC,enP,jJ,f1]
  rw [IK _ _ _ _ _ _ _ _ _ (show _=AV.ptr (H.length+2) 0 0 by simp -implicitDefEqProofs only [AA,↓reduceIte,jA]),G5 f2 (JU r4)]
  exact ⟨_,rfl,_,_,hS.symm,rfl,f3,f4⟩
theorem AAV {H:Hp} {l:Dg} (s:PS bb rest l H) (op:Int) (x y:Wrd) (hx:x.length=16) (hy:y.length=16) (ox:LOk l x) (oy:LOk l y):Ct G bb rest 150 [.ptr bb 0 0,.int .i64 op,wA x,wA y] H l (cpL op x y) wA:=by
 intro base Bad hk hb
 generalize hT:cpL op x y l=TOT at hb
 refine acN Tryz.func150 rfl ?_
 show awp _ _ _ _ _ (EH _ [.cell 8 74] _)
 simp -implicitDefEqProofs only [BC,CG,A8,BI,A7,AZ,BB,AC,AQ,AO,BD,AX,AL,AA,AY,AU,BH,BG,BA,EF,FK,BX,wxP,BR,AB,EC,BF,BU,↓reduceIte,jA,jB,jC,enP,PZ _ hx,PZ _ hy,SV]
 generalize hX:H ++ [ABlk.live 16 [cW x]] ++ [ABlk.live 16 [cW y]] ++ [ABlk.live 16 [cW (jK 16 0)]]=X
 have hxe:ext H X:=by rw [← hX]; exact (((ext.rfl' H).app _).app _).app _
 have q6:isW X H.length x:=by rw [← hX]; exact BN (BN (CV _ _))
 have q7:isW X (H.length+1) y:=by rw [← hX]; exact BN (GK (by simp))
 have q8:isW X (H.length+2) (jK 16 0):=by rw [← hX]; exact GK (by simp)
 have sX:=s.ext hxe
 have kX:=Kb.ofExt (bb:=bb) hxe
 have e1:(H ++ [ABlk.live 16 [cW x]]).length=H.length+1:=by simp
 have e2:(H ++ [ABlk.live 16 [cW x]] ++ [ABlk.live 16 [cW y]]).length=H.length+2:=by simp
 rw [e1,e2]
 clear hX hxe
 have sl:=s.lt
 have hcase:op=15∨op=16∨op=17∨(op≠15∧op≠16∧op≠17):=by omega
 rcases hcase with rfl | rfl | rfl | ⟨n1,n2,n3⟩
 ·unfold cpL at hT; rw [if_pos rfl] at hT
  simp -implicitDefEqProofs only [BC,A8,D6,AZ,AC,AQ,AO,BD,AX,AL,AA,AY,BZ,BG,BO,CB,BP,wxP,AB,BF,jF,jE,jD,↓reduceIte,jA,jB,jC,enP,zX,G5 q6 hx,G5 q7 hy]
  refine (UR G sX x y hx hy ox oy).use hT hb (hk.trans kX) ?_
  intro r3 l3 H3 e3 hS s3 k3
  have hS:ret (sgl r3) l3=TOT:=hS
  have q8:=k3.keep _ _ q8 (by omega)
  obtain ⟨f1,f2,f3,f4⟩:=RI (JU r3) s3 (kX.trans k3) (c:=H.length+2) (by omega) (by omega) (by simp) q8
  simp -implicitDefEqProofs only [AZ,AC,AQ,AO,BD,AX,AL,AA,AY,BZ,CB,BP,jF,jE,jD,↓reduceIte,jB,jC]
  refine (pcX (JL G r3 H3)).use ?_
  simp -implicitDefEqProofs only [BK,A7,CW,EN,AZ,BB,AC,AQ,AO,BD,AX,AL,DK,AA,AY,DC,wxP,CJ,↓reduceIte,jA,jC,enP,jJ,f1]
  rw [IK _ _ _ _ _ _ _ _ _ (show _=AV.ptr (H.length+2) 0 0 by simp -implicitDefEqProofs only [AA,↓reduceIte,jA]),G5 f2 (JU r3)]
  exact ⟨_,rfl,_,_,hS.symm,rfl,f3,f4⟩
 ·unfold cpL at hT; rw [if_neg (by decide),if_pos rfl] at hT
  simp -implicitDefEqProofs only [BC,A8,BI,A7,D6,D9,AZ,BB,AC,AQ,AO,BD,AX,AL,AA,AY,AU,BZ,BH,BG,BA,BO,BX,CB,BP,wxP,AB,EC,BF,jF,jE,jD,↓reduceIte,jA,jB,jC,enP,zX,G5 q6 hx,G5 q7 hy]
  refine (UR G sX x y hx hy ox oy).use hT hb (hk.trans kX) ?_
  intro r2 l2 H2 e2 hS s2 k2
  obtain ⟨x2,p2⟩:=AVO s.v (by omega) ox oy s.v.p1 e2
  have q8:=k2.keep _ _ q8 (by omega)
  have k2:=kX.trans k2
  simp -implicitDefEqProofs only [AZ,AC,AQ,AO,BD,AX,AL,AA,AY,BZ,CB,BP,jF,jE,jD,↓reduceIte,jA,jB,jC]
  refine (KJ G s2 _ p2).use hS hb (hk.trans k2) ?_
  intro r3 l3 H3 e3 hS s3 k3
  have hS:ret (sgl r3) l3=TOT:=hS
  have q8:=k3.keep _ _ q8 (by omega)
  obtain ⟨f1,f2,f3,f4⟩:=RI (JU r3) s3 (k2.trans k3) (c:=H.length+2) (by omega) (by omega) (by simp) q8
  simp -implicitDefEqProofs only [AZ,AC,AQ,AO,BD,AX,AL,AA,AY,BZ,CB,BP,jF,jE,jD,↓reduceIte,jB,jC]
  refine (pcX (JL G r3 H3)).use ?_
  simp -implicitDefEqProofs only [BK,A7,CW,EN,AZ,BB,AC,AQ,AO,BD,AX,AL,DK,AA,AY,DC,wxP,CJ,↓reduceIte,jA,jC,enP,jJ,f1]
  rw [IK _ _ _ _ _ _ _ _ _ (show _=AV.ptr (H.length+2) 0 0 by simp -implicitDefEqProofs only [AA,↓reduceIte,jA]),G5 f2 (JU r3)]
  exact ⟨_,rfl,_,_,hS.symm,rfl,f3,f4⟩
 ·unfold cpL at hT; rw [if_neg (by decide),if_neg (by decide),if_pos rfl] at hT
  simp -implicitDefEqProofs only [BC,A8,BI,A7,D6,D9,AZ,BB,AC,AQ,AO,BD,AX,AL,AA,AY,AU,BZ,BH,BG,BA,BO,BX,CB,BP,wxP,AB,EC,BF,jF,jE,jD,↓reduceIte,jA,jB,jC,enP,zX,G5 q6 hx,G5 q7 hy]
  refine (U8 G sX x y hx hy ox oy).use hT hb (hk.trans kX) ?_
  intro r3 l3 H3 e3 hS s3 k3
  have hS:ret (sgl r3) l3=TOT:=hS
  have q8:=k3.keep _ _ q8 (by omega)
  obtain ⟨f1,f2,f3,f4⟩:=RI (JU r3) s3 (kX.trans k3) (c:=H.length+2) (by omega) (by omega) (by simp) q8
  simp -implicitDefEqProofs only [AZ,AC,AQ,AO,BD,AX,AL,AA,AY,BZ,CB,BP,jF,jE,jD,↓reduceIte,jB,jC]
  refine (pcX (JL G r3 H3)).use ?_
  simp -implicitDefEqProofs only [BK,A7,CW,EN,AZ,BB,AC,AQ,AO,BD,AX,AL,DK,AA,AY,DC,wxP,CJ,↓reduceIte,jA,jC,enP,jJ,f1]
  rw [IK _ _ _ _ _ _ _ _ _ (show _=AV.ptr (H.length+2) 0 0 by simp -implicitDefEqProofs only [AA,↓reduceIte,jA]),G5 f2 (JU r3)]
  exact ⟨_,rfl,_,_,hS.symm,rfl,f3,f4⟩
 ·unfold cpL at hT; rw [if_neg n1,if_neg n2,if_neg n3] at hT
  simp -implicitDefEqProofs only [BC,A8,BQ,BI,A7,ET,D9,AZ,BB,AC,AQ,AO,BD,AX,AL,AA,AY,AU,BZ,BH,BG,BA,BO,BX,CB,BP,wxP,AB,EC,BF,jF,jE,jD,↓reduceIte,jA,jB,jC,enP,beq_eq_false_iff_ne.2 n1,beq_eq_false_iff_ne.2 n2,beq_eq_false_iff_ne.2 n3,G5 q6 hx,G5 q7 hy]
  refine (U8 G sX y x hy hx oy ox).use hT hb (hk.trans kX) ?_
  intro r2 l2 H2 e2 hS s2 k2
  obtain ⟨x2,p2⟩:=AP4 s.v (by omega) oy ox s.v.p0 e2
  have q8:=k2.keep _ _ q8 (by omega)
  have k2:=kX.trans k2
  simp -implicitDefEqProofs only [AZ,AC,AQ,AO,BD,AX,AL,AA,AY,BZ,CB,BP,jF,jE,jD,↓reduceIte,jA,jB,jC]
  refine (KJ G s2 _ p2).use hS hb (hk.trans k2) ?_
  intro r3 l3 H3 e3 hS s3 k3
  have hS:ret (sgl r3) l3=TOT:=hS
  have q8:=k3.keep _ _ q8 (by omega)
  obtain ⟨f1,f2,f3,f4⟩:=RI (JU r3) s3 (k2.trans k3) (c:=H.length+2) (by omega) (by omega) (by simp) q8
  simp -implicitDefEqProofs only [AZ,AC,AQ,AO,BD,AX,AL,AA,AY,BZ,CB,BP,jF,jE,jD,↓reduceIte,jB,jC]
  refine (pcX (JL G r3 H3)).use ?_
  simp -implicitDefEqProofs only [BK,A7,AZ,BB,AC,AQ,AO,BD,AX,AL,DK,AA,AY,DC,wxP,CJ,↓reduceIte,jA,jC,enP,jJ,f1]
  rw [IK _ _ _ _ _ _ _ _ _ (show _=AV.ptr (H.length+2) 0 0 by simp -implicitDefEqProofs only [AA,↓reduceIte,jA]),G5 f2 (JU r3)]
  exact ⟨_,rfl,_,_,hS.symm,rfl,f3,f4⟩
end
def Ws (l:Dg) (m:M Wrd):Prop:=Sp l m fun r l'=>r.length=16∧LOk l' r
theorem Ws.of {l:Dg} {m:M Wrd} {P:Wrd→Dg→Prop} (h:Sp l m fun r l'=>(r.length=16∧LOk l' r)∧P r l'):Ws l m:=h.mono fun _ _ _ _ q=>q.1
theorem Ws.sgl {l:Dg} {m:M Nat} {P:Nat→Dg→Prop} (h:Sp l m fun r l'=>r < l'.length∧P r l'):Ws l (m.bnd fun r=>ret (Bl.sgl r)) :=
 h.bnd fun r _ v1 _ q=>Sp.ret v1 ⟨JU r,LOk.sgl v1 q.1⟩
section
variable {l:Dg} (v:VD l) {x y:Wrd} (hx:x.length=16) (hy:y.length=16) (ox:LOk l x) (oy:LOk l y)
include v hx hy ox oy
theorem AOT (op:Nat→Nat→M Nat) (b:B3) (h : ∀ f g,op f g=ap b f g g):Ws l (pr2 op x y) :=
 (AFI op (fun _ _ p q=>b p q q) l (fun l' f g v' _ hf hg=>by rw [h]; exact WR b v' hf hg hg) x y l v (Xt.rfl' l) (by omega) ox oy).mono fun _ _ _ _ q=>⟨by omega,q.1.2⟩
omit hx hy in
theorem AOU (op:Int):Ws l (lgL op x y):=by
 unfold lgL
 refine (TB x l 0 v ox v.p0).bnd ?_
 rintro s l1 v1 x1 ⟨h1,_⟩
 refine (TB y l1 0 v1 (oy.go x1) v1.p0).bnd ?_
 rintro t l2 v2 x2 ⟨h2,_⟩
 split
 ·exact Ws.sgl (PI v2 (x2.lt h1) h2)
 split
 ·exact Ws.sgl (XP v2 (x2.lt h1) h2)
 ·refine (OC v2 (x2.lt h1)).bnd ?_
  rintro n l3 v3 x3 ⟨h3,_⟩
  exact Ws.sgl (XP v3 h3 (x3.lt h2))
theorem ASC (op:Int):Ws l (cpL op x y):=by
 unfold cpL
 split
 ·exact Ws.sgl (WM x y l 1 v (by omega) ox oy v.p1)
 split
 ·refine (WM x y l 1 v (by omega) ox oy v.p1).bnd ?_
  rintro n l3 v3 x3 ⟨h3,_⟩
  exact Ws.sgl (OC v3 h3)
 split
 ·exact Ws.sgl (UL x y l 0 v (by omega) ox oy v.p0)
 ·refine (UL y x l 0 v (by omega) oy ox v.p0).bnd ?_
  rintro n l3 v3 x3 ⟨h3,_⟩
  exact Ws.sgl (OC v3 h3)
theorem AV8 (op:Int):Ws l (OB op x y):=by
 unfold OB
 split
 ·exact (PP x y l 0 v (by omega) ox oy v.p0).mono fun _ _ _ _ q=>⟨by omega,q.1.2⟩
 split
 ·exact Ws.of (AF8 v hx hy ox oy)
 split
 ·exact Ws.of (AFH x hx y 0 l (cst 0) v (by omega) ox oy (IY 0) (LOk.cst v 0))
 split
 ·exact AOT v hx hy ox oy KN AKT fun _ _=>rfl
 split
 ·exact AOT v hx hy ox oy oOr bOr fun _ _=>rfl
 split
 ·exact AOT v hx hy ox oy O8 AKS fun _ _=>rfl
 split
 ·exact Ws.of (XI true v hx hy ox oy)
 split
 ·exact Ws.of (XI false v hx hy ox oy)
 split
 ·exact AOU v ox oy op
 ·exact ASC v hx hy ox oy op
end
section
variable (G:Nat→AV) {bb:Nat} {rest:List AV}
theorem ANH {H:Hp} {l:Dg} (s:PS bb rest l H) {x y:Wrd} (hx:x.length=16) (hy:y.length=16) (ox:LOk l x) (oy:LOk l y):Ct G bb rest 82 [wA x,wA y,.fn (.func 144) [.ptr bb 0 0] []] H l (pr2 KN x y) wA :=
 TF G s x y hx hy ox oy _ KN (fun _ _ _ _ _ v _ hf hg e=>apX v hf hg hg e) fun _ _ f g s' _ _ hf hg base Bad hk hb=>J7 G s' f g hf hg base Bad hk hb
theorem APO {H:Hp} {l:Dg} (s:PS bb rest l H) {x y:Wrd} (hx:x.length=16) (hy:y.length=16) (ox:LOk l x) (oy:LOk l y):Ct G bb rest 82 [wA x,wA y,.fn (.func 73) [.ptr bb 0 0] []] H l (pr2 oOr x y) wA :=
 TF G s x y hx hy ox oy _ oOr (fun _ _ _ _ _ v _ hf hg e=>apX v hf hg hg e) fun _ _ f g s' _ _ hf hg base Bad hk hb=>MP G s' f g hf hg base Bad hk hb
theorem ANG {H:Hp} {l:Dg} (s:PS bb rest l H) {x y:Wrd} (hx:x.length=16) (hy:y.length=16) (ox:LOk l x) (oy:LOk l y):Ct G bb rest 82 [wA x,wA y,.fn (.func 147) [.ptr bb 0 0] []] H l (pr2 O8 x y) wA :=
 TF G s x y hx hy ox oy _ O8 (fun _ _ _ _ _ v _ hf hg e=>apX v hf hg hg e) fun _ _ f g s' _ _ hf hg base Bad hk hb=>SN G s' f g hf hg base Bad hk hb
theorem ASV {H:Hp} {l:Dg} (s:PS bb rest l H) {x y:Wrd} (hx:x.length=16) (hy:y.length=16) (ox:LOk l x) (oy:LOk l y):Ct G bb rest 148 [.ptr bb 0 0,wA x,wA y,.int .i64 1] H l (shS true x y 16 0 (cst 0)) wA:=ABS G s true x y hx hy ox oy
theorem ASU {H:Hp} {l:Dg} (s:PS bb rest l H) {x y:Wrd} (hx:x.length=16) (hy:y.length=16) (ox:LOk l x) (oy:LOk l y):Ct G bb rest 148 [.ptr bb 0 0,wA x,wA y,.int .i64 (-1)] H l (shS false x y 16 0 (cst 0)) wA:=ABS G s false x y hx hy ox oy
set_option maxHeartbeats 8000000 in
theorem AIR {H:Hp} {l:Dg} (s:PS bb rest l H) (op:Int) (x y:Wrd) (hx:x.length=16) (hy:y.length=16) (ox:LOk l x) (oy:LOk l y):Ct G bb rest 85 [.ptr bb 0 0,.int .i64 op,wA x,wA y] H l (OB op x y) wA:=by
 intro base Bad hk hb
 have hW : ∀ m,OB op x y=m→Ws l m:=fun m e=>e ▸ AV8 s.v hx hy ox oy op
 generalize hT:OB op x y l=TOT at hb
 refine acN Tryz.func85 rfl ?_
 show awp _ _ _ _ _ (EH _ [.cell 8 74] _)
 simp -implicitDefEqProofs only [BC,CG,A8,BI,A7,AZ,BB,AC,AQ,AO,BD,AX,AL,AA,AY,AU,BH,BG,BA,EF,FK,BX,wxP,BR,AB,EC,BF,BU,↓reduceIte,jA,jB,jC,enP,PZ _ hx,PZ _ hy,SV]
 generalize hX:H ++ [ABlk.live 16 [cW x]] ++ [ABlk.live 16 [cW y]] ++ [ABlk.live 16 [cW (jK 16 0)]]=X
 have hxe:ext H X:=by rw [← hX]; exact (((ext.rfl' H).app _).app _).app _
 have q6:isW X H.length x:=by rw [← hX]; exact BN (BN (CV _ _))
 have q7:isW X (H.length+1) y:=by rw [← hX]; exact BN (GK (by simp))
 have q8:isW X (H.length+2) (jK 16 0):=by rw [← hX]; exact GK (by simp)
 have sX:=s.ext hxe
 have kX:=Kb.ofExt (bb:=bb) hxe
 have e1:(H ++ [ABlk.live 16 [cW x]]).length=H.length+1:=by simp
 have e2:(H ++ [ABlk.live 16 [cW x]] ++ [ABlk.live 16 [cW y]]).length=H.length+2:=by simp
 rw [e1,e2]
 clear hX hxe
 have sl:=s.lt
 have hcase:op=7∨op=8∨op=9∨op=10∨op=11∨op=12∨op=13∨op=14∨(op=19∨op=20∨op=21)∨(op≠7∧op≠8∧op≠9∧op≠10∧op≠11∧op≠12∧op≠13∧op≠14∧op≠19∧op≠20∧op≠21):=by omega
 rcases hcase with rfl | rfl | rfl | rfl | rfl | rfl | rfl | rfl | hop | ⟨n1,n2,n3,n4,n5,n6,n7,n8,n9,n10,n11⟩
 ·have hm:OB 7 x y=RD x y 0:=by unfold OB;  rw [if_pos rfl]
  have hw:=hW _ hm
  rw [hm] at hT
  simp -implicitDefEqProofs only [BC,A8,D6,AZ,AC,AQ,AO,BD,AX,AL,AA,AY,AU,BZ,BH,BG,BO,CB,BP,wxP,AB,BF,jF,jE,jD,↓reduceIte,jA,jB,jC,enP,zX,G5 q6 hx,G5 q7 hy]
  refine (XF G sX x y 0 hx hy ox oy s.v.p0).use (k:=fun r=>ret r) (by rw [JM]; exact hT) hb (hk.trans kX) ?_
  intro r3 l3 H3 e3 hS s3 k3
  have hS:ret r3 l3=TOT:=hS
  have hr:=(hw r3 l3 e3).2.2.2.1
  have q8:=k3.keep _ _ q8 (by omega)
  obtain ⟨f1,f2,f3,f4⟩:=RI hr s3 (kX.trans k3) (c:=H.length+2) (by omega) (by omega) (by simp) q8
  simp -implicitDefEqProofs only [BK,A7,CW,EN,AZ,BB,AC,AQ,AO,BD,AX,AL,DK,AA,AY,DC,wxP,CJ,↓reduceIte,jA,jC,enP,jJ,f1]
  rw [IK _ _ _ _ _ _ _ _ _ (show _=AV.ptr (H.length+2) 0 0 by simp -implicitDefEqProofs only [AA,↓reduceIte,jA]),G5 f2 hr]
  exact ⟨_,rfl,_,_,hS.symm,rfl,f3,f4⟩
 ·have hm:OB 8 x y=AIF x y:=by unfold OB; rw [if_neg (by decide)]; rw [if_pos rfl]
  have hw:=hW _ hm
  rw [hm] at hT
  simp -implicitDefEqProofs only [BC,A8,BI,A7,D6,D9,AZ,BB,AC,AQ,AO,BD,AX,AL,AA,AY,AU,BZ,BH,BG,BA,BO,BX,CB,BP,wxP,AB,EC,BF,jF,jE,jD,↓reduceIte,jA,jB,jC,enP,zX,G5 q6 hx,G5 q7 hy]
  refine (AIE G sX x y hx hy ox oy).use (k:=fun r=>ret r) (by rw [JM]; exact hT) hb (hk.trans kX) ?_
  intro r3 l3 H3 e3 hS s3 k3
  have hS:ret r3 l3=TOT:=hS
  have hr:=(hw r3 l3 e3).2.2.2.1
  have q8:=k3.keep _ _ q8 (by omega)
  obtain ⟨f1,f2,f3,f4⟩:=RI hr s3 (kX.trans k3) (c:=H.length+2) (by omega) (by omega) (by simp) q8
  simp -implicitDefEqProofs only [BK,A7,CW,EN,AZ,BB,AC,AQ,AO,BD,AX,AL,DK,AA,AY,DC,wxP,CJ,↓reduceIte,jA,jC,enP,jJ,f1]
  rw [IK _ _ _ _ _ _ _ _ _ (show _=AV.ptr (H.length+2) 0 0 by simp -implicitDefEqProofs only [AA,↓reduceIte,jA]),G5 f2 hr]
  exact ⟨_,rfl,_,_,hS.symm,rfl,f3,f4⟩
 ·have hm:OB 9 x y=ADK x 0 y (cst 0):=by unfold OB; rw [if_neg (by decide)]; rw [if_neg (by decide)]; rw [if_pos rfl]
  have hw:=hW _ hm
  rw [hm] at hT
  simp -implicitDefEqProofs only [BC,A8,BI,A7,D6,D9,AZ,BB,AC,AQ,AO,BD,AX,AL,AA,AY,AU,BZ,BH,BG,BA,BO,BX,CB,BP,wxP,AB,EC,BF,jF,jE,jD,↓reduceIte,jA,jB,jC,enP,zX,G5 q6 hx,G5 q7 hy]
  refine (AFG G sX x y hx hy ox oy).use (k:=fun r=>ret r) (by rw [JM]; exact hT) hb (hk.trans kX) ?_
  intro r3 l3 H3 e3 hS s3 k3
  have hS:ret r3 l3=TOT:=hS
  have hr:=(hw r3 l3 e3).2.2.2.1
  have q8:=k3.keep _ _ q8 (by omega)
  obtain ⟨f1,f2,f3,f4⟩:=RI hr s3 (kX.trans k3) (c:=H.length+2) (by omega) (by omega) (by simp) q8
  simp -implicitDefEqProofs only [BK,A7,CW,EN,AZ,BB,AC,AQ,AO,BD,AX,AL,DK,AA,AY,DC,wxP,CJ,↓reduceIte,jA,jC,enP,jJ,f1]
  rw [IK _ _ _ _ _ _ _ _ _ (show _=AV.ptr (H.length+2) 0 0 by simp -implicitDefEqProofs only [AA,↓reduceIte,jA]),G5 f2 hr]
  exact ⟨_,rfl,_,_,hS.symm,rfl,f3,f4⟩
 ·have hm:OB 10 x y=pr2 KN x y:=by unfold OB; rw [if_neg (by decide)]; rw [if_neg (by decide)]; rw [if_neg (by decide)]; rw [if_pos rfl]
  have hw:=hW _ hm
  rw [hm] at hT
  simp -implicitDefEqProofs only [BC,A8,BI,A7,D6,D9,AZ,BB,AC,AQ,AO,BD,AX,AL,AA,AY,AU,BZ,BH,BG,BA,BO,BX,II,CB,BP,wxP,AB,EC,BF,jF,jE,jD,↓reduceIte,jA,jB,jC,enP,zX,G5 q6 hx,G5 q7 hy]
  refine (ANH G sX hx hy ox oy).use (k:=fun r=>ret r) (by rw [JM]; exact hT) hb (hk.trans kX) ?_
  intro r3 l3 H3 e3 hS s3 k3
  have hS:ret r3 l3=TOT:=hS
  have hr:=(hw r3 l3 e3).2.2.2.1
  have q8:=k3.keep _ _ q8 (by omega)
  obtain ⟨f1,f2,f3,f4⟩:=RI hr s3 (kX.trans k3) (c:=H.length+2) (by omega) (by omega) (by simp) q8
  simp -implicitDefEqProofs only [BK,A7,CW,EN,AZ,BB,AC,AQ,AO,BD,AX,AL,DK,AA,AY,DC,wxP,CJ,↓reduceIte,jA,jC,enP,jJ,f1]
  rw [IK _ _ _ _ _ _ _ _ _ (show _=AV.ptr (H.length+2) 0 0 by simp -implicitDefEqProofs only [AA,↓reduceIte,jA]),G5 f2 hr]
  exact ⟨_,rfl,_,_,hS.symm,rfl,f3,f4⟩
 ·have hm:OB 11 x y=pr2 oOr x y:=by unfold OB; rw [if_neg (by decide)]; rw [if_neg (by decide)]; rw [if_neg (by decide)]; rw [if_neg (by decide)]; rw [if_pos rfl]
  have hw:=hW _ hm
  rw [hm] at hT
  simp -implicitDefEqProofs only [BC,A8,BI,A7,D6,D9,AZ,BB,AC,AQ,AO,BD,AX,AL,AA,AY,AU,BZ,BH,BG,BA,BO,BX,II,CB,BP,wxP,AB,EC,BF,jF,jE,jD,↓reduceIte,jA,jB,jC,enP,zX,G5 q6 hx,G5 q7 hy]
  refine (APO G sX hx hy ox oy).use (k:=fun r=>ret r) (by rw [JM]; exact hT) hb (hk.trans kX) ?_
  intro r3 l3 H3 e3 hS s3 k3
  have hS:ret r3 l3=TOT:=hS
  have hr:=(hw r3 l3 e3).2.2.2.1
  have q8:=k3.keep _ _ q8 (by omega)
  obtain ⟨f1,f2,f3,f4⟩:=RI hr s3 (kX.trans k3) (c:=H.length+2) (by omega) (by omega) (by simp) q8
  simp -implicitDefEqProofs only [BK,A7,CW,EN,AZ,BB,AC,AQ,AO,BD,AX,AL,DK,AA,AY,DC,wxP,CJ,↓reduceIte,jA,jC,enP,jJ,f1]
  rw [IK _ _ _ _ _ _ _ _ _ (show _=AV.ptr (H.length+2) 0 0 by simp -implicitDefEqProofs only [AA,↓reduceIte,jA]),G5 f2 hr]
  exact ⟨_,rfl,_,_,hS.symm,rfl,f3,f4⟩
 ·have hm:OB 12 x y=pr2 O8 x y:=by unfold OB; rw [if_neg (by decide)]; rw [if_neg (by decide)]; rw [if_neg (by decide)]; rw [if_neg (by decide)]; rw [if_neg (by decide)]; rw [if_pos rfl]
  have hw:=hW _ hm
  rw [hm] at hT
  simp -implicitDefEqProofs only [BC,A8,BI,A7,D6,D9,AZ,BB,AC,AQ,AO,BD,AX,AL,AA,AY,AU,BZ,BH,BG,BA,BO,BX,II,CB,BP,wxP,AB,EC,BF,jF,jE,jD,↓reduceIte,jA,jB,jC,enP,zX,G5 q6 hx,G5 q7 hy]
  refine (ANG G sX hx hy ox oy).use (k:=fun r=>ret r) (by rw [JM]; exact hT) hb (hk.trans kX) ?_
  intro r3 l3 H3 e3 hS s3 k3
  have hS:ret r3 l3=TOT:=hS
  have hr:=(hw r3 l3 e3).2.2.2.1
  have q8:=k3.keep _ _ q8 (by omega)
  obtain ⟨f1,f2,f3,f4⟩:=RI hr s3 (kX.trans k3) (c:=H.length+2) (by omega) (by omega) (by simp) q8
  simp -implicitDefEqProofs only [BK,A7,CW,EN,AZ,BB,AC,AQ,AO,BD,AX,AL,DK,AA,AY,DC,wxP,CJ,↓reduceIte,jA,jC,enP,jJ,f1]
  rw [IK _ _ _ _ _ _ _ _ _ (show _=AV.ptr (H.length+2) 0 0 by simp -implicitDefEqProofs only [AA,↓reduceIte,jA]),G5 f2 hr]
  exact ⟨_,rfl,_,_,hS.symm,rfl,f3,f4⟩
 ·have hm:OB 13 x y=shS true x y 16 0 (cst 0):=by unfold OB; rw [if_neg (by decide)]; rw [if_neg (by decide)]; rw [if_neg (by decide)]; rw [if_neg (by decide)]; rw [if_neg (by decide)]; rw [if_neg (by decide)]; rw [if_pos rfl]
  have hw:=hW _ hm
  rw [hm] at hT
  simp -implicitDefEqProofs only [BC,A8,BI,A7,D6,D9,AZ,BB,AC,AQ,AO,BD,AX,AL,AA,AY,AU,BZ,BH,BG,BA,BO,BX,CB,BP,wxP,AB,EC,BF,jF,jE,jD,↓reduceIte,jA,jB,jC,enP,zX,G5 q6 hx,G5 q7 hy]
  refine (ASV G sX hx hy ox oy).use (k:=fun r=>ret r) (by rw [JM]; exact hT) hb (hk.trans kX) ?_
  intro r3 l3 H3 e3 hS s3 k3
  have hS:ret r3 l3=TOT:=hS
  have hr:=(hw r3 l3 e3).2.2.2.1
  have q8:=k3.keep _ _ q8 (by omega)
  obtain ⟨f1,f2,f3,f4⟩:=RI hr s3 (kX.trans k3) (c:=H.length+2) (by omega) (by omega) (by simp) q8
  simp -implicitDefEqProofs only [BK,A7,CW,EN,AZ,BB,AC,AQ,AO,BD,AX,AL,DK,AA,AY,DC,wxP,CJ,↓reduceIte,jA,jC,enP,jJ,f1]
  rw [IK _ _ _ _ _ _ _ _ _ (show _=AV.ptr (H.length+2) 0 0 by simp -implicitDefEqProofs only [AA,↓reduceIte,jA]),G5 f2 hr]
  exact ⟨_,rfl,_,_,hS.symm,rfl,f3,f4⟩
 ·have hm:OB 14 x y=shS false x y 16 0 (cst 0):=by unfold OB; rw [if_neg (by decide)]; rw [if_neg (by decide)]; rw [if_neg (by decide)]; rw [if_neg (by decide)]; rw [if_neg (by decide)]; rw [if_neg (by decide)]; rw [if_neg (by decide)]; rw [if_pos rfl]
  have hw:=hW _ hm
  rw [hm] at hT
  simp -implicitDefEqProofs only [BC,A8,BI,A7,D6,D9,AZ,BB,AC,AQ,AO,BD,AX,AL,AA,AY,AU,BZ,BH,BG,BA,BO,BX,CB,BP,wxP,AB,EC,BF,jF,jE,jD,↓reduceIte,jA,jB,jC,enP,zX,G5 q6 hx,G5 q7 hy]
  refine (ASU G sX hx hy ox oy).use (k:=fun r=>ret r) (by rw [JM]; exact hT) hb (hk.trans kX) ?_
  intro r3 l3 H3 e3 hS s3 k3
  have hS:ret r3 l3=TOT:=hS
  have hr:=(hw r3 l3 e3).2.2.2.1
  have q8:=k3.keep _ _ q8 (by omega)
  obtain ⟨f1,f2,f3,f4⟩:=RI hr s3 (kX.trans k3) (c:=H.length+2) (by omega) (by omega) (by simp) q8
  simp -implicitDefEqProofs only [BK,A7,CW,EN,AZ,BB,AC,AQ,AO,BD,AX,AL,DK,AA,AY,DC,wxP,CJ,↓reduceIte,jA,jC,enP,jJ,f1]
  rw [IK _ _ _ _ _ _ _ _ _ (show _=AV.ptr (H.length+2) 0 0 by simp -implicitDefEqProofs only [AA,↓reduceIte,jA]),G5 f2 hr]
  exact ⟨_,rfl,_,_,hS.symm,rfl,f3,f4⟩
 ·have hm:OB op x y=lgL op x y:=by
   unfold OB
   rw [if_neg (by omega),if_neg (by omega),if_neg (by omega),if_neg (by omega),if_neg (by omega),if_neg (by omega),if_neg (by omega),if_neg (by omega),if_pos hop]
  have hw:=hW _ hm
  rw [hm] at hT
  have hne : ∀ k:Int,7≤k→k≤14→(op == k)=false:=fun k _ _=>beq_eq_false_iff_ne.2 (by omega)
  rcases hop with rfl | rfl | rfl
  ·simp -implicitDefEqProofs only [BC,A8,BQ,BI,A7,D6,D9,AZ,BB,AC,AQ,AO,BD,AX,AL,AA,AY,AU,BZ,BH,BG,BA,BO,BX,CB,BP,wxP,AB,EC,BF,BU,jF,jE,jD,↓reduceIte,jA,jB,jC,enP,zX,G5 q6 hx,G5 q7 hy]
   refine (WC G sX 19 (by omega) x y hx hy ox oy).use (k:=fun r=>ret r) (by rw [JM]; exact hT) hb (hk.trans kX) ?_
   intro r3 l3 H3 e3 hS s3 k3
   have hS:ret r3 l3=TOT:=hS
   have hr:=(hw r3 l3 e3).2.2.2.1
   have q8:=k3.keep _ _ q8 (by omega)
   obtain ⟨f1,f2,f3,f4⟩:=RI hr s3 (kX.trans k3) (c:=H.length+2) (by omega) (by omega) (by simp) q8
   simp -implicitDefEqProofs only [BK,A7,CW,EN,AZ,BB,AC,AQ,AO,BD,AX,AL,DK,AA,AY,DC,wxP,CJ,↓reduceIte,jA,jC,enP,jJ,f1]
   rw [IK _ _ _ _ _ _ _ _ _ (show _=AV.ptr (H.length+2) 0 0 by simp -implicitDefEqProofs only [AA,↓reduceIte,jA]),G5 f2 hr]
   exact ⟨_,rfl,_,_,hS.symm,rfl,f3,f4⟩
  ·simp -implicitDefEqProofs only [BC,A8,BQ,BI,A7,D6,D9,AZ,BB,AC,AQ,AO,BD,AX,AL,AA,AY,AU,BZ,BH,BG,BA,BO,BX,CB,BP,wxP,AB,EC,BF,BU,jF,jE,jD,↓reduceIte,jA,jB,jC,enP,zX,G5 q6 hx,G5 q7 hy]
   refine (WC G sX 20 (by omega) x y hx hy ox oy).use (k:=fun r=>ret r) (by rw [JM]; exact hT) hb (hk.trans kX) ?_
   intro r3 l3 H3 e3 hS s3 k3
   have hS:ret r3 l3=TOT:=hS
   have hr:=(hw r3 l3 e3).2.2.2.1
   have q8:=k3.keep _ _ q8 (by omega)
   obtain ⟨f1,f2,f3,f4⟩:=RI hr s3 (kX.trans k3) (c:=H.length+2) (by omega) (by omega) (by simp) q8
   simp -implicitDefEqProofs only [BK,A7,CW,EN,AZ,BB,AC,AQ,AO,BD,AX,AL,DK,AA,AY,DC,wxP,CJ,↓reduceIte,jA,jC,enP,jJ,f1]
   rw [IK _ _ _ _ _ _ _ _ _ (show _=AV.ptr (H.length+2) 0 0 by simp -implicitDefEqProofs only [AA,↓reduceIte,jA]),G5 f2 hr]
   exact ⟨_,rfl,_,_,hS.symm,rfl,f3,f4⟩
  ·simp -implicitDefEqProofs only [BC,A8,BI,A7,D6,D9,AZ,BB,AC,AQ,AO,BD,AX,AL,AA,AY,AU,BZ,BH,BG,BA,BO,BX,CB,BP,wxP,AB,EC,BF,BU,jF,jE,jD,↓reduceIte,jA,jB,jC,enP,zX,G5 q6 hx,G5 q7 hy]
   refine (WC G sX 21 (by omega) x y hx hy ox oy).use (k:=fun r=>ret r) (by rw [JM]; exact hT) hb (hk.trans kX) ?_
   intro r3 l3 H3 e3 hS s3 k3
   have hS:ret r3 l3=TOT:=hS
   have hr:=(hw r3 l3 e3).2.2.2.1
   have q8:=k3.keep _ _ q8 (by omega)
   obtain ⟨f1,f2,f3,f4⟩:=RI hr s3 (kX.trans k3) (c:=H.length+2) (by omega) (by omega) (by simp) q8
   simp -implicitDefEqProofs only [BK,A7,CW,EN,AZ,BB,AC,AQ,AO,BD,AX,AL,DK,AA,AY,DC,wxP,CJ,↓reduceIte,jA,jC,enP,jJ,f1]
   rw [IK _ _ _ _ _ _ _ _ _ (show _=AV.ptr (H.length+2) 0 0 by simp -implicitDefEqProofs only [AA,↓reduceIte,jA]),G5 f2 hr]
   exact ⟨_,rfl,_,_,hS.symm,rfl,f3,f4⟩
 ·have hm:OB op x y=cpL op x y:=by
   unfold OB
   rw [if_neg n1,if_neg n2,if_neg n3,if_neg n4,if_neg n5,if_neg n6,if_neg n7,if_neg n8,if_neg (by omega)]
  have hw:=hW _ hm
  rw [hm] at hT
  simp -implicitDefEqProofs only [BC,A8,BQ,BI,A7,ET,D9,AZ,BB,AC,AQ,AO,BD,AX,AL,AA,AY,AU,BZ,BH,BG,BA,BO,BX,CB,BP,wxP,AB,EC,BF,BU,jF,jE,jD,↓reduceIte,jA,jB,jC,enP,beq_eq_false_iff_ne.2 n1,beq_eq_false_iff_ne.2 n2,beq_eq_false_iff_ne.2 n3,beq_eq_false_iff_ne.2 n4,beq_eq_false_iff_ne.2 n5,beq_eq_false_iff_ne.2 n6,beq_eq_false_iff_ne.2 n7,beq_eq_false_iff_ne.2 n8,beq_eq_false_iff_ne.2 n9,beq_eq_false_iff_ne.2 n10,beq_eq_false_iff_ne.2 n11,G5 q6 hx,G5 q7 hy]
  refine (AAV G sX op x y hx hy ox oy).use (k:=fun r=>ret r) (by rw [JM]; exact hT) hb (hk.trans kX) ?_
  intro r3 l3 H3 e3 hS s3 k3
  have hS:ret r3 l3=TOT:=hS
  have hr:=(hw r3 l3 e3).2.2.2.1
  have q8:=k3.keep _ _ q8 (by omega)
  obtain ⟨f1,f2,f3,f4⟩:=RI hr s3 (kX.trans k3) (c:=H.length+2) (by omega) (by omega) (by simp) q8
  simp -implicitDefEqProofs only [BK,A7,AZ,BB,AC,AQ,AO,BD,AX,AL,DK,AA,AY,DC,wxP,CJ,↓reduceIte,jA,jC,enP,jJ,f1]
  rw [IK _ _ _ _ _ _ _ _ _ (show _=AV.ptr (H.length+2) 0 0 by simp -implicitDefEqProofs only [AA,↓reduceIte,jA]),G5 f2 hr]
  exact ⟨_,rfl,_,_,hS.symm,rfl,f3,f4⟩
end
def fnm (x:ByteArray):List Vr→Option Nat
 | []=>none
 | v :: r=>if LQ x v=true then some 0 else (fnm x r).map (·+1)
theorem YB (x:ByteArray) : ∀ l:List Vr,match fnm x l with
  | some i=>plc l x=(i:Nat)∧i < l.length
  | none=>plc l x < 0
 | []=>by simp [fnm,plc,ML]
 | v :: r=>by
   have ih:=YB x r
   unfold plc at ih ⊢
   unfold fnm ML
   by_cases h:LQ x v=true
   ·rw [if_pos h,if_pos h]; simp
   ·rw [if_neg h,if_neg h]
    cases hr:fnm x r with
    | none=>rw [hr] at ih; simp only [Option.map_none]; rw [if_pos ih]; decide
    | some i =>
      rw [hr] at ih
      obtain ⟨i1,i2⟩:=ih
      simp only [Option.map_some]
      rw [if_neg (by omega),i1]
      exact ⟨by omega,by simp; omega⟩
theorem AJ4 {x:ByteArray} {l:List Vr} {i:Nat} (h:fnm x l=some i):i < l.length:=by have:=YB x l; rw [h] at this; exact this.2
def nmR:List Vr→Nat→List (AV × AV)
 | [],_ => []
 | v :: r,i=>(.str v.name,.int .i64 (i:Nat)) :: nmR r (i+1)
theorem ATA (l:List Vr) (v:Vr) : ∀ i,nmR (l ++ [v]) i=nmR l i ++ [(.str v.name,.int .i64 ((i+l.length:Nat):Int))]:=by
 induction l with
 | nil=>intro i; simp [nmR]
 | cons m r ih=>intro i; simp only [List.cons_append,nmR,zO]; rw [ih (i+1),show i+1+r.length=i+(r.length+1) by omega]
theorem AL1 : ∀ (l:List Vr) (i k:Nat),k < l.length→∃ a,(nmR l i)[k]? = some (a,.int .i64 ((i+k:Nat):Int))
 | [],i,k,h=>by simp at h
 | n :: r,i,0,_=>⟨_,by simp [nmR]; rfl⟩
 | n :: r,i,k+1,h=>by
   simp only [nmR,jQ]
   obtain ⟨a,ha⟩:=AL1 r (i+1) k (by simpa using h)
   exact ⟨a,by rw [ha,show i+1+k=i+(k+1) by omega]⟩
theorem AYM:Tryz.prog.underlying 9=some .string:=by kernel_rfl
theorem AU7:Tryz.prog.underlying 76=some (.map 9 3):=by kernel_rfl
theorem kt9 (x:ByteArray):QC Tryz.prog 9 (.str x)=true:=by unfold QC; rw [AYM]
theorem ke9 (x y:ByteArray):LU Tryz.prog 9 (.str x) (.str y)=some (x.toList == y.toList):=by unfold LU; rw [AYM]
theorem ACG (x:ByteArray) : ∀ (l:List Vr) (i:Nat),QJ Tryz.prog 9 (.str x) (nmR l i)=some (fnm x l)
 | [],i=>rfl
 | v :: r,i=>by
   have ih:=ACG x r (i+1)
   have hc:(x.toList == v.name.toList)=LQ x v:=by unfold LQ; exact Bool.beq_comm
   simp only [nmR,QJ,ke9,fnm,hc]
   by_cases h:LQ x v=true
   ·rw [if_pos h,h]
   ·rw [if_neg h,show LQ x v=false by simpa using h]
    simp only [ih]
    cases fnm x r <;> rfl
theorem AL7 {H:Hp} {b:Nat} {l:List Vr} (hb:H[b]? = some (.map (nmR l 0))) (x:ByteArray) (ok:Bool):JD Tryz.prog H 76 (.mp b) (.str x) ok=some (match fnm x l with
  | some i=>if ok then .tup [.int .i64 (i:Nat),.bool true] else .int .i64 (i:Nat)
  | none=>if ok then .tup [.int .i64 0,.bool false] else .int .i64 0):=by
 have hf:=ACG x l 0
 unfold JD
 simp only [AU7,hb,kt9,if_true,hf,zr3]
 cases hx:fnm x l with
 | none=>rfl
 | some i =>
   obtain ⟨a,ha⟩:=AL1 l 0 i (AJ4 hx)
   rw [jG] at ha
   simp [ha]
theorem AP3 {H:Hp} {b:Nat} {l:List Vr} (hb:H[b]? = some (.map (nmR l 0))) (v:Vr) (hv:fnm v.name l=none):JG Tryz.prog H 76 (.mp b) (.str v.name) (.int .i64 (l.length:Nat))=some (H.set b (.map (nmR (l ++ [v]) 0))):=by
 have hf:=ACG v.name l 0
 unfold JG
 simp only [AU7,hb,kt9,if_true,hf,hv]
 rw [ATA,jG]
structure VrOk (v:Vr) (lv:Int):Prop where
 st:v.mode=0→0≤v.value∧v.value≤65535
 rn:v.mode≠0→1≤v.width∧v.width≤8∧0≤lv∧lv+v.width≤20
def vbL (e:Nat):Nat→Nat→M (List Nat)
 | 0,_=>ret []
 | n+1,k=>(mk (e - 1 - k) 0 1).bnd fun b=>(vbL e n (k+1)).bnd fun r=>ret (b :: r)
def AGX (v:Vr) (lv:Int):M Wrd:=if v.mode=0 then ret (cst v.value.toNat) else (vbL (lv+v.width).toNat v.width.toNat 0).bnd fun d=>ret (d ++ jK (16 - v.width.toNat) 0)
theorem ARH {l:Dg} (v:VD l) {lv:Nat} (h:lv < 20):Sp l (mk lv 0 1) fun r l'=>r < l'.length∧Pw l' fun L => ∀ β,ev L β r=β lv:=by
 refine (AP1 v h v.p0 v.p1 (by rw [v.n0]; exact h) (by rw [v.n1]; exact h)).mono fun r l' v' x' q => ?_
 have key:r < l'.length∧∀ β,ev l' β r=β lv:=by
  refine ⟨?_,fun β => ?_⟩
  ·first | exact q.1 | exact q.2.1
  ·have:=q.2.2 β
   simp [TJ,AQW] at this
   exact this
 exact ⟨key.1,fun L vL xL β=>by rw [xL.ev v' vL β key.1]; exact key.2 β⟩
structure Pk (p:Pr) (lvs:List Int) (lm:SM) (mb:Nat) (rest:List AV):Prop where
 e:rest=DZ p ++ [.sl lm 1 (lvs.map qencI),.mp mb]
 ok : ∀ (i:Nat) (hi:i < p.vars.length),VrOk p.vars[i] (lvs.getD i 0)
 ln:lvs.length=p.vars.length
theorem Pk.n {p:Pr} {lvs:List Int} {lm:SM} {mb:Nat} {rest:List AV} (k:Pk p lvs lm mb rest):rest.length=7:=by rw [k.e]; rfl
section
variable (G:Nat→AV) {bb:Nat} {rest:List AV} {p:Pr} {lvs:List Int} {lm:SM} {mb:Nat}
theorem Pk.l1 (k:Pk p lvs lm mb rest) {l:Dg} {H:Hp} (s:PS bb rest l H):DF Tryz.prog H 22 (.ptr bb 0 1)=some (.sl p.vm 4 (p.vars.map E5)):=by
 obtain ⟨m,h⟩:=s.b
 rw [DI UD h (row := .sl m 3 (l.map DJ) :: rest) rfl,k.e]; rfl
theorem Pk.l6 (k:Pk p lvs lm mb rest) {l:Dg} {H:Hp} (s:PS bb rest l H):DF Tryz.prog H 29 (.ptr bb 0 6)=some (.sl lm 1 (lvs.map qencI)):=by
 obtain ⟨m,h⟩:=s.b
 rw [DI AOK h (row := .sl m 3 (l.map DJ) :: rest) rfl,k.e]; rfl
theorem Pk.l7 (k:Pk p lvs lm mb rest) {l:Dg} {H:Hp} (s:PS bb rest l H):DF Tryz.prog H 76 (.ptr bb 0 7)=some (.mp mb):=by
 obtain ⟨m,h⟩:=s.b
 rw [DI A1J h (row := .sl m 3 (l.map DJ) :: rest) rfl,k.e]; rfl
theorem ASG {α:Type} (e n k:Nat) (d:Wrd) (K:Wrd→M α):((vbL e (n+1) k).bnd fun r=>K (d ++ r))=(mk (e - 1 - k) 0 1).bnd fun a=>(vbL e n (k+1)).bnd fun r=>K ((d ++ [a]) ++ r):=by
 show ((mk (e - 1 - k) 0 1).bnd fun a=>(vbL e n (k+1)).bnd fun s=>ret (a :: s)).bnd _=_
 rw [IG]
 refine congrArg (M.bnd _) (funext fun a => ?_)
 rw [IG]
 refine congrArg (M.bnd _) (funext fun r => ?_)
 show K (d ++ (a :: r))=_
 rw [zH]; rfl
set_option maxHeartbeats 4000000 in
theorem ADH {H:Hp} {l:Dg} (s:PS bb rest l H) (hP:Pk p lvs lm mb rest) (hmb:H[mb]? = some (.map (nmR p.vars 0))) (x:ByteArray) (i:Nat) (hi:fnm x p.vars=some i) (hil:i < p.vars.length):Ct G bb rest 75 [.ptr bb 0 0,.str x] H l (AGX p.vars[i] (lvs.getD i 0)) wA:=by
 intro base Bad hk hb
 have hok:=hP.ok i hil
 have hiv:i < lvs.length:=by rw [hP.ln]; exact hil
 have llv:DF Tryz.prog H 3 (.fptr 1 (lvs.map qencI) i 0)=some (.int .i64 (lvs.getD i 0)):=by
  rw [FO ag3 hiv,zK,jS hiv]; rfl
 have llv : ∀ H:Hp,DF Tryz.prog H 3 (.fptr 1 (lvs.map qencI) i 0)=some (.int .i64 (lvs.getD i 0)):=fun H=>llv
 generalize lvs.getD i 0=lv at hok llv hb ⊢
 have lvv : ∀ H:Hp,DF Tryz.prog H 65 (.fptr 4 (p.vars.map E5) i 0)=some (.agg (E5 p.vars[i])):=fun H=>ldV hil
 generalize p.vars[i]=v at hok lvv hb ⊢
 generalize hT:AGX v lv l=TOT at hb
 refine KL (H:=Hint.none) (enM G) Tryz.func75 rfl (by kernel_rfl) (by kernel_rfl) (jH (by kernel_rfl)) ?_
 show awp _ _ _ _ _ (EH _ [.cell 4 74] _)
 have sl:=s.lt
 have ml:=BV hmb
 have q4:isW (H ++ [ABlk.live 16 [cW (jK 16 0)]]) H.length (jK 16 0):=CV _ _
 have s0:=s.app (ABlk.live 16 [cW (jK 16 0)])
 have k0:=(Kb.rfl' bb H).app (ABlk.live 16 [cW (jK 16 0)])
 have m0:(H ++ [ABlk.live 16 [cW (jK 16 0)]])[mb]? = some (.map (nmR p.vars 0)):=BN hmb
 have e0:(H ++ [ABlk.live 16 [cW (jK 16 0)]]).length=H.length+1:=by simp
 have lk:=AL7 m0 x false
 rw [hi] at lk
 have lk:JD Tryz.prog (H ++ [ABlk.live 16 [cW (jK 16 0)]]) 76 (.mp mb) (.str x) false=some (.int .i64 (i:Nat)):=lk
 simp -implicitDefEqProofs only [BC,A8,A7,AZ,BB,AC,AQ,AO,BD,AX,AL,AA,AY,BG,EF,BO,BJ,wxP,BR,AB,BF,↓reduceIte,jA,jG,jB,jC,enP,AKA,EE,EY,SV]
 generalize H ++ [ABlk.live 16 [cW (jK 16 0)]]=A at q4 s0 k0 m0 e0 lk ⊢
 have a1:DF Tryz.prog A 22 (.ptr bb 0 1)=some (.sl p.vm 4 (p.vars.map E5)):=hP.l1 s0
 have a7:DF Tryz.prog A 76 (.ptr bb 0 7)=some (.mp mb):=hP.l7 s0
 simp -implicitDefEqProofs only [BC,A8,A7,AZ,BB,AC,AQ,AO,BD,AX,AL,AA,AY,BG,BA,BO,BJ,wxP,RX,AB,BF,BU,↓reduceIte,jA,jI,jG,jB,jC,enP,KH,AXH,EE,EY,a7,lk]
 simp -implicitDefEqProofs only [BC,A8,A7,AZ,BB,AC,AQ,AO,BD,AX,AL,DK,AA,AY,BG,EF,BO,DC,BJ,CO,wxP,BR,AB,CJ,↓reduceIte,jA,jG,jB,jC,enP,RH,MM,jJ,a1,EQ hil,lvv,Bd.al61,Bd.st61]
 have q4:isW (A ++ [ABlk.live 4 [E5 v]]) H.length (jK 16 0):=BN q4
 have q6:(A ++ [ABlk.live 4 [E5 v]])[A.length]? = some (.live 4 [E5 v]):=CV _ _
 have s0:=s0.app (ABlk.live 4 [E5 v])
 have k0:=k0.app (ABlk.live 4 [E5 v])
 have ex:ext A (A ++ [ABlk.live 4 [E5 v]]):=⟨_,rfl⟩
 generalize A ++ [ABlk.live 4 [E5 v]]=B at q4 q6 s0 k0 ex ⊢
 have lB:=BV q6
 have g1 : ∀ {H':Hp},H'[A.length]? = some (.live 4 [E5 v])→DF Tryz.prog H' 3 (.ptr A.length 0 1)=some (.int .i64 v.width):=fun q=>by rw [DI ag3 q rfl]; rfl
 have g2:DF Tryz.prog B 3 (.ptr A.length 0 2)=some (.int .i64 v.mode):=by rw [DI ag3 q6 rfl]; rfl
 have g3:DF Tryz.prog B 3 (.ptr A.length 0 3)=some (.int .i64 v.value):=by rw [DI ag3 q6 rfl]; rfl
 simp -implicitDefEqProofs only [BI,A7,AZ,BB,AC,AQ,AO,BD,AX,AL,AA,AY,AU,BH,BX,wxP,AB,EC,↓reduceIte,jB,jC,enP,g2]
 refine CX (fun hc => ?_) (fun hc => ?_)
 ·have hm:v.mode=0:=by simpa using hc
  obtain ⟨z0,z1⟩:=hok.st hm
  obtain ⟨z,hz⟩:=qW z0
  unfold AGX at hT
  rw [if_pos hm] at hT
  rw [hz] at g3 z1
  have hT:ret (cst z) l=TOT:=by rw [← hT,hz]; rfl
  simp -implicitDefEqProofs only [BC,A8,AZ,AC,AQ,AO,BD,AX,AL,AA,AY,BZ,BO,BJ,CB,BP,wxP,AB,jF,jE,jD,↓reduceIte,jA,jG,jB,jC,enP,WJ,g3]
  refine (pcX (NC G z (by omega) B)).use ?_
  obtain ⟨f1,f2,f3,f4⟩:=RI (IY z) s0 k0 (c:=H.length) (by omega) (by omega) (by simp) q4
  simp -implicitDefEqProofs only [BK,A7,CW,AZ,BB,AC,AQ,AO,BD,AX,AL,DK,AA,AY,DC,wxP,CJ,↓reduceIte,jA,jC,enP,jJ,f1]
  rw [IK _ _ _ _ _ _ _ _ _ (show _=AV.ptr H.length 0 0 by simp -implicitDefEqProofs only [AA,↓reduceIte,jA]),G5 f2 (IY z)]
  exact ⟨_,rfl,_,_,hT.symm,rfl,f3,f4⟩
 ·have hm : ¬ v.mode=0:=by simpa using hc
  obtain ⟨w1,w8,lv0,lv20⟩:=hok.rn hm
  obtain ⟨w,hw⟩:=qW (show 0≤v.width by omega)
  obtain ⟨u,hu⟩:=qW lv0
  subst hu
  rw [hw] at g1 w1 w8 lv20
  unfold AGX at hT
  rw [if_neg hm,hw,show ((u:Int)+(w:Int)).toNat=u+w by omega,Int.toNat_natCast] at hT
  let K:Wrd→M Wrd:=fun d=>ret (d ++ jK (16 - w) 0)
  have hT:((vbL (u+w) w 0).bnd fun r=>K ([] ++ r)) l=TOT:=hT
  simp -implicitDefEqProofs only [BC,CG,A8,BQ,A7,AZ,BB,AC,AQ,AO,BD,AX,AL,AA,AY,AU,BH,BG,EF,BO,BJ,wxP,BR,AB,↓reduceIte,jA,jG,jB,jC,enP,KZ,SV,g1 (BN q6)]
  have q4:isW (B ++ [ABlk.live 16 [cW (jK 16 0)]]) H.length (jK 16 0):=BN q4
  have q6:(B ++ [ABlk.live 16 [cW (jK 16 0)]])[A.length]? = some (.live 4 [E5 v]):=BN q6
  have q7:isW (B ++ [ABlk.live 16 [cW (jK 16 0)]]) B.length (jK 16 0):=CV _ _
  have s0:=s0.app (ABlk.live 16 [cW (jK 16 0)])
  have k0:=k0.app (ABlk.live 16 [cW (jK 16 0)])
  have hlC:B.length < (B ++ [ABlk.live 16 [cW (jK 16 0)]]).length:=by simp
  generalize B ++ [ABlk.live 16 [cW (jK 16 0)]]=C at q4 q6 q7 s0 k0 hlC ⊢
  refine G6 0 (fun F H' => ∃ d l',d.length=16∧TOT=some (d,l')∧PS bb rest l' H'∧Kb bb H H'∧isW H' B.length d∧isW H' H.length (jK 16 0)∧F 4 = .ptr H.length 0 0∧F 7 = .ptr B.length 0 0) (fun _ _=>False) ?_ ?_ (fun _ _ q=>q.elim)
  ·refine D5 (fun n F H' => ∃ k d l',n+k=w∧d.length=k∧((vbL (u+w) n k).bnd fun r=>K (d ++ r)) l'=TOT∧PS bb rest l' H'∧Kb bb H H'∧isW H' H.length (jK 16 0)∧H'[A.length]? = some (.live 4 [E5 v])∧isW H' B.length (d ++ jK (16 - k) 0) ∧
    F 0 = .ptr bb 0 0∧F 4 = .ptr H.length 0 0∧F 5 = .int .i64 (i:Nat)∧F 6 = .ptr A.length 0 0∧F 7 = .ptr B.length 0 0∧F 30 = .int .i64 (w:Nat)∧F 31 = .int .i64 (k:Nat)) w
    ⟨0,[],l,by omega,rfl,hT,s0,k0,q4,q6,q7,by simp -implicitDefEqProofs only [AA,BF,↓reduceIte,jA],by simp -implicitDefEqProofs only [AA,↓reduceIte,jA],by simp -implicitDefEqProofs only [AA,↓reduceIte,jA],by simp -implicitDefEqProofs only [AA,↓reduceIte,jA],by simp -implicitDefEqProofs only [AA,↓reduceIte,jA],by simp -implicitDefEqProofs only [AA,↓reduceIte,jA],by simp -implicitDefEqProofs only [AA,↓reduceIte]; rfl⟩ ?_
   clear q4 q6 q7 s0 k0 hlC
   rintro n F H0 ⟨k,d,l0,hn,hd,hS,s',k',q4,q6,q7,f0,f4,f5,f6,f7,f30,f31⟩
   have ec:decide (((k:Nat):Int) < (w:Nat))=decide (k < w):=by rw [decide_eq_decide]; omega
   simp -implicitDefEqProofs only [BC,A8,BI,A7,AZ,BB,AC,AQ,AO,BD,AX,AL,AA,AY,BX,wxP,AB,C9,↓reduceIte,jB,jC,enP,f30,f31,ec]
   refine CX (fun hc => ?_) (fun hc => ?_)
   ·have hk':k < w:=by simpa using hc
    obtain ⟨n,rfl⟩ : ∃ n',n=n'+1:=⟨n - 1,by omega⟩
    rw [ASG] at hS
    obtain ⟨m,hl⟩:=s'.ld
    have a6:DF Tryz.prog H0 29 (.ptr bb 0 6)=some (.sl lm 1 (lvs.map qencI)):=hP.l6 s'
    have z1:IntKind.i64.wrap ((u:Int)+(w:Int))=((u+w:Nat):Int):=by rw [wrap_i64 (by omega) (by omega)]; omega
    have z2:IntKind.i64.wrap (((u+w:Nat):Int) - 1)=((u+w - 1:Nat):Int):=by rw [wrap_i64 (by omega) (by omega)]; omega
    have z3:IntKind.i64.wrap (((u+w - 1:Nat):Int) - (k:Nat))=((u+w - 1 - k:Nat):Int):=by rw [wrap_i64 (by omega) (by omega)]; omega
    have hlv:u+w - 1 - k < 20:=by omega
    simp -implicitDefEqProofs only [BC,CG,A8,BQ,A7,AZ,BB,AC,AQ,AO,BD,AX,AL,AA,AY,BG,BA,↓reduceIte,jA,jB,jC,f31]
    refine GI (.ones [0,1,2,3,4,5,6,7,8,9,10,11,12,13,14,15,16,17,18,19,20,21,22] (.alt 23 (.ones [24,25] .done) .non)) (by kernel_rfl) ?_
    simp only [DN,JQ,jQ,jP]
    simp -implicitDefEqProofs only [FC,DT,CZ,DV,ED,EK,IE,D7,ES,J6,IB,GZ,A8,A7,ET,AZ,AC,AQ,AO,BD,AX,AA,AY,AU,BZ,BH,BO,BX,BJ,CO,EJ,CB,BP,wxP,AB,DX,MR,jF,jE,jD,↓reduceIte,jA,jL,jI,jG,jB,jC,enP,WG,KZ,RJ,AXG,EE,F8,EY,f0,f5,f6,f31,hl,a6,EQ hiv,llv,g1 q6,z1,z2,z3,GR,GU]
    have b0:=s'.lt
    have kl:=k'.len
    obtain ⟨yd,y1,y2,e,hc⟩ : ∃ (x:AV) (y z:Int),dgV (mk (u+w - 1 - k) 0 1 l0) = .tup [.agg [x],.int .i64 y,.int .i64 z]∧∀ K:AV→Hp→Prop,(∀ r l' H',mk (u+w - 1 - k) 0 1 l0=some (r,l')→PS bb rest l' H'→Kb bb H0 H'→K (iA r) H')→ACalls ((En G).wx (X0 bb base Bad)) 138 [.ptr bb 0 0,.agg [x],.int .i64 y,.int .i64 z] H0 K:=by
     obtain ⟨x,y,z,e,hc⟩:=kept G s' (m:=mk (u+w - 1 - k) 0 1) (fun r l1 e=>(ARH s'.v hlv r l1 e).1) (base:=base) (Bad:=Bad) (K:=fun v H' => ∃ r l',mk (u+w - 1 - k) 0 1 l0=some (r,l')∧PS bb rest l' H'∧Kb bb H0 H'∧v=iA r) (hk.trans k') (fun q=>hb (by rw [← hS,SQ q])) fun r l' H' e s k=>⟨r,l',e,s,k,rfl⟩
     exact ⟨x,y,z,e,fun K hK=>ACalls.mono hc fun v H' ⟨r,l',e,s,k,hv⟩=>by rw [hv]; exact hK r l' H' e s k⟩
    refine ⟨_,pcX (by have:=ARI G l0 m s'.v _ hlv H0; rw [e] at this; exact this),?_⟩
    simp -implicitDefEqProofs only [FC,jP,jQ,DT,CZ,D8,DV,J6,AC,AA,AY,EJ,FP,AB,↓reduceIte,jA,jL,jB,GR,GU]
    refine ⟨hc _ fun a l1 H1 ea s1 k1 => ?_,trivial⟩
    rw [NT ea] at hS
    have q4:=k1.keep _ _ q4 (by omega)
    have q6:=k1.keep _ _ q6 (by omega)
    have q7:=k1.keep _ _ q7 (by omega)
    have hst:=stW (n:=a) q7 (i:=k) (by rw [XZ hd (by omega)]; omega)
    rw [XY hd (by omega)] at hst
    simp -implicitDefEqProofs only [FC,DT,CZ,H9,D8,DV,IX,EX,AZ,BB,AC,AQ,AO,BD,AX,AL,AA,AY,BG,DC,wxP,AB,CJ,DX,↓reduceIte,jA,jG,jB,jC,enP,jJ,GR,GU,f7,f31,PW (show k < 16 by omega),hst,wrap_succ (show k < 9223372036854775807 by omega)]
    have ne : ∀ {c:Nat} {y B':ABlk},H1[c]? = some y→c≠B.length→(H1.set B.length B')[c]? = some y:=fun q hne=>by rw [jR (Ne.symm hne)]; exact q
    refine ⟨n,by omega,k+1,d ++ [a],l1,by omega,by simp [hd],hS,s1.set (by omega) _,(k'.trans k1).setN (by omega) _,ne q4 (by omega),ne q6 (by omega),DY q7,by trivial,by trivial,by trivial,by trivial,by trivial,by trivial,by trivial⟩
   ·have hk':k=w:=by have hc' : ¬ k < w:=fun q=>by rw [decide_eq_true q] at hc; cases hc
                     omega
    subst hk'
    have:n=0:=by omega
    subst this
    have hS:ret (d ++ jK (16 - k) 0) l0=TOT:=by rw [← hS]; show K d l0=K (d ++ []) l0; rw [jD]
    simp -implicitDefEqProofs only [DW,EP,KE,FM,AA,↓reduceIte,jA]
    exact ⟨_,l0,by simp; omega,hS.symm,s',k',q7,q4,f4,f7⟩
  ·rintro F H' ⟨d,l',hd,e,s',k',q7,q4,f4,f7⟩
   simp -implicitDefEqProofs only [BC,A8,BK,A7,FH,AZ,BB,AC,AQ,AO,BD,AX,AL,DK,AA,AY,BO,DC,wxP,AB,CJ,↓reduceIte,jA,jB,jC,enP,jJ,f4,f7,G5 q7 hd,TV q4 (by simp) hd]
   rw [IK _ _ _ _ _ _ _ _ _ (show _=AV.ptr H.length 0 0 by first | exact f4 | (simp -implicitDefEqProofs only [f4])),G5 (DY q4) hd]
   exact ⟨_,rfl,d,l',e,rfl,s'.set (by omega) _,k'.setN (by omega) _⟩
end
def Vs (l:Dg) (m:M Wrd) (V:Dg→(Nat→Bool)→Nat):Prop:=Sp l m fun r l'=>(r.length=16∧LOk l' r)∧Pw l' fun L => ∀ β,val L β r=V L β
theorem Vs.ws {l:Dg} {m:M Wrd} {V:Dg→(Nat→Bool)→Nat} (h:Vs l m V):Ws l m:=Ws.of h
theorem AYP (b:Bool):tn b=tr b:=rfl
theorem Vs.sgl {l:Dg} {m:M Nat} {T:Dg→(Nat→Bool)→Bool} (h:Sp l m fun r l'=>r < l'.length∧Pw l' fun L => ∀ β,ev L β r=T L β):Vs l (m.bnd fun r=>ret (Bl.sgl r)) fun L β=>tr (T L β) :=
 h.bnd fun r l1 v1 _ q=>Sp.ret v1 ⟨⟨JU r,LOk.sgl v1 q.1⟩,fun L vL xL β=>by rw [ALK,q.2 L vL xL β,AYP]⟩
theorem Vs.cast {l:Dg} {m:M Wrd} {V W:Dg→(Nat→Bool)→Nat} (h:Vs l m V) (e : ∀ L β,V L β=W L β):Vs l m W:=Sp.mono h fun _ _ _ _ q=>⟨q.1,fun L vL xL β=>by rw [q.2 L vL xL β,e]⟩
theorem APT (L:Dg) (β:Nat→Bool) : ∀ xs:List Nat,onV L β xs=QB (val L β xs) xs.length:=by
 have step : ∀ (k o m:Nat),o < 2→QB (o+2 * m) (k+1)=o+QB m k:=by
  intro k
  induction k with
  | zero =>
    intro o m ho
    show 0+AGD (o+2 * m) 0=o+0
    unfold AGD
    rw [Nat.pow_zero,Nat.div_one]; omega
  | succ k ih =>
    intro o m ho
    show QB (o+2 * m) (k+1)+AGD (o+2 * m) (k+1)=o+(QB m k+AGD m k)
    rw [ih o m ho]
    have:AGD (o+2 * m) (k+1)=AGD m k:=by
     unfold AGD
     rw [Nat.pow_succ,Nat.mul_comm (2 ^ k) 2,← Nat.div_div_eq_div_mul,show (o+2 * m) / 2=m by omega]
    omega
 intro xs
 induction xs with
 | nil=>rfl
 | cons x xs ih =>
   simp only [onV,val,zO]
   rw [step _ _ _ (AD3 _),ih]
theorem AWP (a b:Nat):AJE true a b=APE a (b:Nat):=by
 unfold AJE APE
 by_cases h:b < 16
 ·rw [if_pos h,if_pos rfl,if_neg (by omega)]; rfl
 ·rw [if_neg h,if_pos (by omega)]
theorem AWO (a b:Nat):AJE false a b=APD a (b:Nat):=by
 unfold AJE APD
 by_cases h:b < 16
 ·rw [if_pos h,if_neg (by decide),if_neg (by omega)]; rfl
 ·rw [if_neg h,if_pos (by omega)]
section
variable {l:Dg} (v:VD l) {x y:Wrd} (hx:x.length=16) (hy:y.length=16) (ox:LOk l x) (oy:LOk l y)
include v hx hy ox oy
theorem AOY (op:Nat→Nat→M Nat) (b:B3) (h : ∀ f g,op f g=ap b f g g) (f:Nat→Nat→Nat) (hf : ∀ a c,a < 65536→c < 65536→f a c < 65536) (hb : ∀ a c i,(f a c).testBit i=b (a.testBit i) (c.testBit i) (c.testBit i)) :
  Vs l (pr2 op x y) fun L β=>f (val L β x) (val L β y) :=
 (AFI op (fun _ _ p q=>b p q q) l (fun l' f g v' _ hf hg=>by rw [h]; exact WR b v' hf hg hg) x y l v (Xt.rfl' l) (by omega) ox oy).mono fun r _ _ _ q=>⟨⟨by omega,q.1.2⟩,fun L vL xL β=>by
  have h1:=P8 L β x
  have h2:=P8 L β y
  rw [hx] at h1
  rw [hy] at h2
  refine P9 (by omega) (hf _ _ h1 h2) fun k hk => ?_
  rw [q.2 L vL xL β k (by omega),hb,OT,OT]⟩
theorem AWB (op:Int) (hop:7≤op∧op≤21):Vs l (OB op x y) fun L β=>dbW op (val L β x) (val L β y):=by
 have hcase:op=7∨op=8∨op=9∨op=10∨op=11∨op=12∨op=13∨op=14∨op=15∨op=16∨op=17∨op=18∨op=19∨op=20∨op=21:=by omega
 have lt16 : ∀ (L:Dg) (β:Nat→Bool),val L β x < 65536∧val L β y < 65536:=fun L β=>⟨by have:=P8 L β x; rw [hx] at this; exact this,by have:=P8 L β y; rw [hy] at this; exact this⟩
 rcases hcase with rfl | rfl | rfl | rfl | rfl | rfl | rfl | rfl | rfl | rfl | rfl | rfl | rfl | rfl | rfl
 ·show Vs l (RD x y 0) fun L β=>(val L β x+val L β y) % 65536
  refine (PP x y l 0 v (by omega) ox oy v.p0).mono fun r _ _ _ q=>⟨⟨by omega,q.1.2⟩,fun L vL xL β => ?_⟩
  rw [q.2 L vL xL β,hx,TJ]; rfl
 ·show Vs l (AIF x y) fun L β=>(val L β x+65536 - val L β y) % 65536
  exact AF8 v hx hy ox oy
 ·show Vs l (ADK x 0 y (cst 0)) fun L β=>val L β x * val L β y % 65536
  refine (AFH x hx y 0 l (cst 0) v (by omega) ox oy (IY 0) (LOk.cst v 0)).mono fun r _ _ _ q=>⟨q.1,fun L vL xL β => ?_⟩
  rw [q.2 L vL xL β,U2]; simp
 ·exact AOY v hx hy ox oy KN AKT (fun _ _=>rfl) (fun a b=>a &&& b) (fun a c h1 h2=>Nat.lt_of_le_of_lt Nat.and_le_left h1) fun a c i=>Nat.testBit_and a c i
 ·exact AOY v hx hy ox oy oOr bOr (fun _ _=>rfl) (fun a b=>a ||| b) (fun a c h1 h2=>Nat.or_lt_two_pow (n:=16) h1 h2) fun a c i=>Nat.testBit_or a c i
 ·exact AOY v hx hy ox oy O8 AKS (fun _ _=>rfl) (fun a b=>a ^^^ b) (fun a c h1 h2=>Nat.xor_lt_two_pow (n:=16) h1 h2) fun a c i=>by rw [Nat.testBit_xor]; rfl
 ·exact Vs.cast (XI true v hx hy ox oy) fun L β=>AWP _ _
 ·exact Vs.cast (XI false v hx hy ox oy) fun L β=>AWO _ _
 ·refine Vs.cast (Vs.sgl (WM x y l 1 v (by omega) ox oy v.p1)) fun L β => ?_
  show _=tr _
  rw [AQW,zV]
 ·show Vs l ((eqL x y 1).bnd fun e=>(NZ e).bnd fun r=>ret (sgl r)) _
  refine (WM x y l 1 v (by omega) ox oy v.p1).bnd ?_
  rintro n l3 v3 x3 ⟨h3,e3⟩
  refine Sp.mono (Vs.sgl (OC v3 h3)) fun r l4 v4 x4 q=>⟨q.1,fun L vL xL β => ?_⟩
  rw [q.2 L vL xL β]
  show tr (!ev L β n)=_
  rw [e3 L vL (x4.trans xL),AQW,zV]; rfl
 ·refine Vs.cast (Vs.sgl (UL x y l 0 v (by omega) ox oy v.p0)) fun L β => ?_
  show _=tr _
  rw [TJ,Bool.and_false,jW]
 ·show Vs l ((lsL y x 0).bnd fun e=>(NZ e).bnd fun r=>ret (sgl r)) _
  refine (UL y x l 0 v (by omega) oy ox v.p0).bnd ?_
  rintro n l3 v3 x3 ⟨h3,e3⟩
  refine Sp.mono (Vs.sgl (OC v3 h3)) fun r l4 v4 x4 q=>⟨q.1,fun L vL xL β => ?_⟩
  rw [q.2 L vL xL β]
  show tr (!ev L β n)=tr _
  rw [e3 L vL (x4.trans xL),TJ,Bool.and_false,jW]
  congr 1
  rw [Bool.eq_iff_iff]; simp
 all_goals
  show Vs l (lgL _ x y) _
  unfold lgL
  refine (TB x l 0 v ox v.p0).bnd ?_
  rintro s l1 v1 x1 ⟨h1,e1⟩
  refine (TB y l1 0 v1 (oy.go x1) v1.p0).bnd ?_
  rintro t l2 v2 x2 ⟨h2,e2⟩
 ·rw [if_pos rfl]
  refine Sp.mono (Vs.sgl (PI v2 (x2.lt h1) h2)) fun r l4 v4 x4 q=>⟨q.1,fun L vL xL β => ?_⟩
  rw [q.2 L vL xL β]
  show tr (ev L β s && ev L β t)=tr _
  rw [e2 L vL (x4.trans xL),e1 L vL (x2.trans (x4.trans xL)),TJ,qF,qF]
 ·rw [if_neg (by decide),if_pos rfl]
  refine Sp.mono (Vs.sgl (XP v2 (x2.lt h1) h2)) fun r l4 v4 x4 q=>⟨q.1,fun L vL xL β => ?_⟩
  rw [q.2 L vL xL β]
  show tr (ev L β s || ev L β t)=tr _
  rw [e2 L vL (x4.trans xL),e1 L vL (x2.trans (x4.trans xL)),TJ,qF,qF]
 ·rw [if_neg (by decide),if_neg (by decide)]
  refine (OC v2 (x2.lt h1)).bnd ?_
  rintro n l3 v3 x3 ⟨h3,e3⟩
  refine Sp.mono (Vs.sgl (XP v3 h3 (x3.lt h2))) fun r l4 v4 x4 q=>⟨q.1,fun L vL xL β => ?_⟩
  have X3:=x4.trans xL
  have X2:=x3.trans X3
  rw [q.2 L vL xL β]
  show tr (ev L β n || ev L β t)=tr _
  rw [e3 L vL X3,e2 L vL X2,e1 L vL (x2.trans X2),TJ]
  simp
end
def bv (β:Nat→Bool) (e:Nat):Nat→Nat→Nat
 | 0,_=>0
 | n+1,k=>tn (β (e - 1 - k))+2 * bv β e n (k+1)
def vrV (v:Vr) (lv:Int) (β:Nat→Bool):Nat:=if v.mode=0 then v.value.toNat else bv β (lv+v.width).toNat v.width.toNat 0
theorem AOZ (e:Nat) (he:e≤20) : ∀ (n k:Nat) (l:Dg),VD l→k+n≤e→Sp l (vbL e n k) fun r l'=>(r.length=n∧LOk l' r)∧Pw l' fun L => ∀ β,val L β r=bv β e n k
 | 0,k,l,v,_=>Sp.ret v ⟨⟨rfl,LOk.nil l⟩,fun L _ _ β=>rfl⟩
 | n+1,k,l,v,hk=>by
   unfold vbL
   refine (ARH v (show e - 1 - k < 20 by omega)).bnd ?_
   rintro b l1 v1 x1 ⟨h1,e1⟩
   refine (AOZ e he n (k+1) l1 v1 (by omega)).bnd ?_
   rintro r l2 v2 x2 ⟨⟨h2,h2'⟩,e2⟩
   refine Sp.ret v2 ⟨⟨by simp [h2],LOk.cons (x2.lt h1) h2'⟩,fun L vL xL β => ?_⟩
   simp only [val,bv]
   rw [e2 L vL xL,e1 L vL (x2.trans xL)]
theorem ASJ {l:Dg} (v:VD l) (x:Vr) (lv:Int) (h:VrOk x lv):Vs l (AGX x lv) fun _ β=>vrV x lv β:=by
 unfold AGX vrV
 by_cases hm:x.mode=0
 ·rw [if_pos hm]
  obtain ⟨z0,z1⟩:=h.st hm
  refine Sp.ret v ⟨⟨IY _,LOk.cst v _⟩,fun L _ _ β => ?_⟩
  rw [U2,Nat.mod_eq_of_lt (by omega)]
  exact (if_pos hm).symm
 ·rw [if_neg hm]
  obtain ⟨w1,w8,l0,l20⟩:=h.rn hm
  refine (AOZ _ (by omega) x.width.toNat 0 l v (by omega)).bnd ?_
  rintro r l2 v2 x2 ⟨⟨h2,h2'⟩,e2⟩
  refine Sp.ret v2 ⟨⟨by simp [h2]; omega,h2'.app (LOk.zeros v2 _)⟩,fun L vL xL β => ?_⟩
  rw [AFA,U1,e2 L vL xL,Nat.mul_zero,jI]
  exact (if_neg hm).symm
def wOp (p:Pr) (lvs:List Int) (op n:Int) (name:ByteArray) (ws:List Wrd):M Wrd :=
 if op=1 then ret (cst n.toNat) else if op=2 then (match fnm name p.vars with
  | some i=>match p.vars[i]? with
    | some v=>AGX v (lvs.getD i 0)
    | none=>ret []
  | none=>ret [])
 else if op=4 then (trL (ws.getD 0 []) 0).bnd fun t=>(NZ t).bnd fun r=>ret (sgl r)
 else if op=5 then cmpL (ws.getD 0 [])
 else if op=6 then AIF (cst 0) (ws.getD 0 [])
 else if op=25 then onL (ws.getD 0 []) (cst 0)
 else if op=23 then (insL (ws.getD 0 []) (ws.drop 1) 0).bnd fun r=>ret (sgl r)
 else if op=22 then (trL (ws.getD 0 []) 0).bnd fun c=>pr2 (oCh c) (ws.getD 1 []) (ws.getD 2 [])
 else OB op (ws.getD 0 []) (ws.getD 1 [])
mutual
def RY (p:Pr) (lvs:List Int):Ex→M Wrd
 | .mk op n name _ args=>(UF p lvs args).bnd fun ws=>wOp p lvs op n name ws
def UF (p:Pr) (lvs:List Int):List Ex→M (List Wrd)
 | []=>ret []
 | e :: es=>(RY p lvs e).bnd fun w=>(UF p lvs es).bnd fun ws=>ret (w :: ws)
end
theorem ALF (p:Pr) (lvs:List Int) (e:Ex):RY p lvs e=(UF p lvs e.args).bnd fun ws=>wOp p lvs e.op e.n e.name ws:=by cases e; simp [RY,Ex.op,Ex.n,Ex.name,Ex.args]
theorem ADX (p:Pr) (lvs:List Int):UF p lvs []=ret []:=by simp [UF]
theorem ABJ (p:Pr) (lvs:List Int) (e:Ex) (es:List Ex):UF p lvs (e :: es)=(RY p lvs e).bnd fun w=>(UF p lvs es).bnd fun ws=>ret (w :: ws):=by simp [UF]
structure NOk (p:Pr) (e:Ex):Prop where
 nd:JB e=0
 na:e.op≠3∧e.op≠24
 vr:e.op=2→∃ i,fnm e.name p.vars=some i
def POk (p:Pr) (lvs:List Int):Prop := ∀ (i:Nat) (hi:i < p.vars.length),VrOk p.vars[i] (lvs.getD i 0)
def Agr (p:Pr) (lvs:List Int) (β:Nat→Bool) (l:List Sg):Prop := ∀ (name:ByteArray) (i:Nat) (hi:i < p.vars.length),fnm name p.vars=some i→QI l name=(vrV p.vars[i] (lvs.getD i 0) β,true)
theorem AHP {e:Ex} (h:JB e=0):1≤e.op∧e.op≤25:=by
 unfold JB at h
 cases hb:RU e
 ·unfold RU at hb; simp at hb; omega
 ·rw [hb] at h; simp at h
theorem AEB {e:Ex} (h:JB e=0):VM e.op e.args.length=true:=by
 unfold JB at h
 have hO:RU e=false:=by
  cases hb:RU e
  ·rfl
  ·rw [hb] at h; simp at h
 have hN:ZP e=false:=by
  cases hb:ZP e
  ·rfl
  ·rw [hO,hb] at h; simp at h
 have hS:VQ e=false:=by
  cases hb:VQ e
  ·rfl
  ·rw [hO,hN,hb] at h; simp at h
 unfold VQ at hS
 rw [Bool.or_eq_false_iff] at hS
 simpa using hS.2
theorem ar1 {e:Ex} (h:JB e=0) (hq:e.op=4∨e.op=5∨e.op=6∨e.op=25):e.args.length=1:=by
 have hops:=AEB h
 unfold VM at hops
 rw [if_neg (by simp; omega)] at hops
 have h5:arity e.op=1:=by unfold arity; rw [if_neg (by omega),if_neg (by omega),if_pos (by omega)]
 have h6:((e.args.length:Nat):Int)=arity e.op:=by simpa using hops
 omega
theorem ar2 {e:Ex} (h:JB e=0) (hq:7≤e.op∧e.op≤21):e.args.length=2:=by
 have hops:=AEB h
 unfold VM at hops
 rw [if_neg (by simp; omega)] at hops
 have h5:arity e.op=2:=by unfold arity; rw [if_neg (by omega),if_neg (by omega),if_neg (by omega),if_neg (by omega),if_neg (by omega)]
 have h6:((e.args.length:Nat):Int)=arity e.op:=by simpa using hops
 omega
theorem AQF (L:Dg) (β:Nat→Bool) (x:Nat) : ∀ (n:Nat) (ws:List Wrd),ws.length≤n→AJX L β x ws=ATR x (ws.map (val L β))
 | _,[],_=>rfl
 | _,[_],_=>rfl
 | 0,_ :: _ :: _,h=>by simp at h
 | n+1,a :: b :: r,h=>by
   simp only [AJX,jF,ATR]
   rw [AQF L β x n r (by simp at h; omega)]
theorem ANJ (a:Nat):QB a 16 % 65536=QB a 16:=by have:=Y9 a 16; omega
theorem AUD {a b:Nat} (h:a+b=65535):a=65535 - b:=by omega
theorem AWA {p:Pr} {lvs:List Int} (hp:POk p lvs) {e:Ex} (he:NOk p e) {l:Dg} (v:VD l) {ws:List Wrd} (hl:ws.length=e.args.length) (hw : ∀ w∈ws,w.length=16∧LOk l w) :
  Sp l (wOp p lvs e.op e.n e.name ws) fun r l'=>(r.length=16∧LOk l' r)∧Pw l' fun L => ∀ β env,Agr p lvs β env→val L β r=AAK env e.op e.n e.name (ws.map (val L β)):=by
 obtain ⟨o1,_,oo⟩:=AHQ he.nd
 have hr:=AHP he.nd
 obtain ⟨n3,n24⟩:=he.na
 have gd : ∀ k,k < ws.length→(ws.getD k []).length=16∧LOk l (ws.getD k []):=fun k hk=>by
  rw [zK,jS hk]; exact hw _ (List.getElem_mem hk)
 have gm : ∀ (L:Dg) (β:Nat→Bool) (k:Nat),k < ws.length→(ws.map (val L β)).getD k 0=val L β (ws.getD k []):=fun L β k hk=>by
  rw [zK,zK,zF,jS hk]; rfl
 unfold wOp
 by_cases h1:e.op=1
 ·rw [if_pos h1]
  refine Sp.ret v ⟨⟨IY _,LOk.cst v _⟩,fun L _ _ β env _ => ?_⟩
  unfold AAK
  rw [if_pos h1,U2]
 rw [if_neg h1]
 by_cases h2:e.op=2
 ·rw [if_pos h2]
  obtain ⟨i,hi⟩:=he.vr h2
  have hil:=AJ4 hi
  rw [hi]
  simp only [jS hil]
  refine Sp.mono (ASJ v _ _ (hp i hil)) fun r l' _ _ q=>⟨q.1,fun L vL xL β env ha => ?_⟩
  unfold AAK
  rw [if_neg h1,if_pos h2,ha _ i hil hi,q.2 L vL xL β]
 rw [if_neg h2]
 obtain ⟨c22,c23,c1⟩:=oo h1 h2 n3 n24
 rw [← hl] at c22 c23 c1
 have hvo : ∀ (env:List Sg) (us:List Nat),AAK env e.op e.n e.name us=opW e.op us:=fun env us=>by unfold AAK; rw [if_neg h1,if_neg h2,if_neg n3,if_neg n24]
 have pos:0 < ws.length:=by
  by_cases q:e.op=22
  ·have:=c22 q; omega
  by_cases q':e.op=23
  ·have:=c23 q'; omega
  ·have:=c1 q q'; omega
 obtain ⟨x1,ox1⟩:=gd 0 pos
 have one:e.op≠22→e.op≠23→ws.length=1→∀ (L:Dg) (β:Nat→Bool) (env:List Sg),AAK env e.op e.n e.name (ws.map (val L β))=sgW e.op (val L β (ws.getD 0 [])):=fun a b c L β env=>by
  rw [hvo]; unfold opW; rw [if_neg a,if_neg b,if_pos (by simpa using c),gm _ _ _ pos]
 have ar:=ar1 he.nd
 by_cases h4:e.op=4
 ·rw [if_pos h4]
  refine (TB _ l 0 v ox1 v.p0).bnd ?_
  rintro n l3 v3 x3 ⟨h3,e3⟩
  refine Sp.mono (Vs.sgl (OC v3 h3)) fun r l4 v4 x4 q=>⟨q.1,fun L vL xL β env _ => ?_⟩
  rw [q.2 L vL xL β]
  show tr (!ev L β n)=_
  rw [e3 L vL (x4.trans xL),TJ,qF,Bool.not_not,one (by omega) (by omega) (by have:=ar (by omega); omega)]
  unfold sgW; rw [if_pos h4]
 rw [if_neg h4]
 by_cases h5:e.op=5
 ·rw [if_pos h5]
  refine (ABB _ l v ox1).mono fun r l4 v4 x4 q=>⟨⟨by omega,q.1.2⟩,fun L vL xL β env _ => ?_⟩
  have:=q.2 L vL xL β
  rw [x1] at this
  rw [one (by omega) (by omega) (by have:=ar (by omega); omega)]
  unfold sgW; rw [if_neg h4,if_pos h5]
  exact AUD this
 rw [if_neg h5]
 by_cases h6:e.op=6
 ·rw [if_pos h6]
  refine (AF8 v (IY 0) x1 (LOk.cst v 0) ox1).mono fun r l4 v4 x4 q=>⟨q.1,fun L vL xL β env _ => ?_⟩
  rw [q.2 L vL xL β,U2,one (by omega) (by omega) (by have:=ar (by omega); omega)]
  unfold sgW; rw [if_neg h4,if_neg h5,if_pos h6]
 rw [if_neg h6]
 by_cases h25:e.op=25
 ·rw [if_pos h25]
  refine (APU _ l (cst 0) v ox1 (IY 0) (LOk.cst v 0)).mono fun r l4 v4 x4 q=>⟨q.1,fun L vL xL β env _ => ?_⟩
  rw [q.2 L vL xL β,U2,one (by omega) (by omega) (by have:=ar (by omega); omega)]
  unfold sgW; rw [if_neg h4,if_neg h5,if_neg h6]
  unfold APS
  rw [APT,x1,Nat.zero_mod,jG,ANJ]
 rw [if_neg h25]
 by_cases h23:e.op=23
 ·rw [if_pos h23]
  have hd : ∀ w∈ws.drop 1,w.length=16∧LOk l w:=fun w q=>hw w (List.mem_of_mem_drop q)
  refine Sp.mono (Vs.sgl (AMB _ x1 _ (ws.drop 1) l 0 (jO _) v ox1 hd v.p0)) fun r l4 v4 x4 q=>⟨q.1,fun L vL xL β env _ => ?_⟩
  rw [q.2 L vL xL β]
  show tr (ev L β 0 || _)=_
  rw [TJ,qF,hvo]
  unfold opW
  rw [if_neg (by omega),if_pos h23,gm _ _ _ pos,AQF L β _ _ _ (jO _),List.map_drop]
 rw [if_neg h23]
 by_cases h22:e.op=22
 ·rw [if_pos h22]
  have l3:=c22 h22
  obtain ⟨y1,oy1⟩:=gd 1 (by omega)
  obtain ⟨z1,oz1⟩:=gd 2 (by omega)
  refine (TB _ l 0 v ox1 v.p0).bnd ?_
  rintro c l3 v3 x3 ⟨h3,e3⟩
  refine (AFI (oCh c) (fun L β p q=>bCh (ev L β c) p q) l3 (fun l' f g v' x' hf hg=>WR bCh v' (x'.lt h3) hf hg) _ _ l3 v3 (Xt.rfl' _) (by omega) (oy1.go x3) (oz1.go x3)).mono fun r l4 v4 x4 q=>⟨⟨by omega,q.1.2⟩,fun L vL xL β env _ => ?_⟩
  rw [hvo]
  unfold opW
  rw [if_pos h22,gm _ _ _ pos,gm _ _ _ (by omega),gm _ _ _ (by omega)]
  have hy:=P8 L β (ws.getD 1 [])
  have hz:=P8 L β (ws.getD 2 [])
  rw [y1] at hy
  rw [z1] at hz
  have ec:ev L β c = !(val L β (ws.getD 0 []) == 0):=by rw [e3 L vL (x4.trans xL),TJ,qF]
  refine P9 (by omega) (by split <;> assumption) fun k hk => ?_
  rw [q.2 L vL xL β k (by omega),ec]
  by_cases hz0:val L β (ws.getD 0 [])=0
  ·rw [if_neg (by simpa using hz0),OT,hz0]; simp [bCh]
  ·rw [if_pos hz0,OT]
   have:(val L β (ws.getD 0 []) == 0)=false:=by simpa using hz0
   rw [this]; simp [bCh]
 rw [if_neg h22]
 have l2:=ar2 he.nd (by omega)
 rw [← hl] at l2
 obtain ⟨y1,oy1⟩:=gd 1 (by omega)
 refine Sp.mono (AWB v x1 y1 ox1 oy1 e.op (by omega)) fun r l4 v4 x4 q=>⟨q.1,fun L vL xL β env _ => ?_⟩
 rw [q.2 L vL xL β,hvo]
 unfold opW
 rw [if_neg h22,if_neg h23,if_neg (by rw [List.length_map]; omega),gm _ _ _ pos,gm _ _ _ (by omega)]
def EOk (p:Pr) (e:Ex):Prop := ∀ x∈pre e,NOk p x
theorem EOk.self {p:Pr} {e:Ex} (h:EOk p e):NOk p e:=h e (by rw [pre_eq]; simp)
theorem EOk.arg {p:Pr} {e a:Ex} (h:EOk p e) (ha:a∈e.args):EOk p a:=fun x hx=>h x (by rw [pre_eq]; exact List.mem_cons_of_mem _ (XN ha x hx))
def WV (p:Pr) (lvs:List Int) (e:Ex) (l:Dg):Prop:=Sp l (RY p lvs e) fun r l'=>(r.length=16∧LOk l' r)∧Pw l' fun L => ∀ β env,Agr p lvs β env→val L β r=Q9 env e
theorem AGT {p:Pr} {lvs:List Int} : ∀ (es:List Ex) (l:Dg),VD l→(∀ e∈es,∀ l',VD l'→WV p lvs e l')→Sp l (UF p lvs es) fun ws l'=>(ws.length=es.length∧∀ w∈ws,w.length=16∧LOk l' w)∧Pw l' fun L => ∀ β env,Agr p lvs β env→ws.map (val L β)=VT env es
 | [],l,v,_=>by
   rw [ADX]
   exact Sp.ret v ⟨⟨rfl,fun _ h=>by cases h⟩,fun L _ _ β env _=>by simp [VT]⟩
 | e :: es,l,v,h=>by
   rw [ABJ]
   refine (h e (by simp) l v).bnd ?_
   rintro w l1 v1 x1 ⟨⟨h1,h1'⟩,e1⟩
   refine (AGT es l1 v1 fun a ha=>h a (by simp [ha])).bnd ?_
   rintro ws l2 v2 x2 ⟨⟨h2,h2'⟩,e2⟩
   refine Sp.ret v2 ⟨⟨by simp [h2],fun a ha => ?_⟩,fun L vL xL β env hA => ?_⟩
   ·rcases List.mem_cons.1 ha with rfl | ha
    ·exact ⟨h1,h1'.go x2⟩
    ·exact h2' a ha
   ·rw [jF,e2 L vL xL β env hA,e1 L vL (x2.trans xL) β env hA]
    simp [VT]
theorem PO {p:Pr} {lvs:List Int} (hp:POk p lvs) (e:Ex):EOk p e→∀ l:Dg,VD l→WV p lvs e l:=by
 induction e using Ex.induct with | h e ih => ?_
 intro he l v
 unfold WV
 rw [ALF]
 refine (AGT e.args l v fun a ha l' v'=>ih a ha (he.arg ha) l' v').bnd ?_
 rintro ws l1 v1 x1 ⟨⟨h1,h1'⟩,e1⟩
 refine (AWA hp he.self v1 h1 h1').mono fun r l2 v2 x2 q=>⟨q.1,fun L vL xL β env hA => ?_⟩
 rw [q.2 L vL xL β env hA,e1 L vL (x2.trans xL) β env hA,AA0]
def AFB (p:Pr) (lvs:List Int) (e:Ex):M Nat:=(RY p lvs e).bnd fun w=>trL w 0
theorem ALQ {p:Pr} {lvs:List Int} (hp:POk p lvs) {e:Ex} (he:EOk p e) {l:Dg} (v:VD l):Sp l (AFB p lvs e) fun r l'=>r < l'.length∧Pw l' fun L => ∀ β env,Agr p lvs β env→ev L β r = !(Q9 env e == 0):=by
 refine (PO hp e he l v).bnd ?_
 rintro w l1 v1 x1 ⟨⟨h1,h1'⟩,e1⟩
 refine (TB w l1 0 v1 h1' v1.p0).mono fun r l2 v2 x2 q=>⟨q.1,fun L vL xL β env hA => ?_⟩
 rw [q.2 L vL xL β,e1 L vL (x2.trans xL) β env hA,TJ,qF]
end Go.Proofs.YtgnoolgeijmlaaaGreatDoor.Bl
