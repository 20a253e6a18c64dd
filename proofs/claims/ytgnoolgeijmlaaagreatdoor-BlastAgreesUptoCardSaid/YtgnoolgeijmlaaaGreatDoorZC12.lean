/- Part 12 of the proof (G8, G9, Ga, Gb, Gc, Gd, Ge, Gf, Gg); no condition. -/
import Derived.Test.YtgnoolgeijmlaaaGreatDoorZC11
set_option linter.unusedVariables false
set_option linter.unusedSimpArgs false
set_option maxRecDepth 8000
namespace Go.Proofs.YtgnoolgeijmlaaaGreatDoor.Bl
open Sm Bins Cov Xe Wd Go.Proofs.YtgnoolgeijmlaaaGreatDoor.Bd Go.RowKit
open Bool renaming not_false→jC,eq_iff_iff→zZ,and_eq_true→jW,not_true→jT
open List renaming map_cons→jF,map_nil→jE,append_nil→jD,length_map→jM,length_take→zN,getElem?_eq_getElem→jP,take_succ_eq_append_getElem→qE,getElem?_set_ne→jS,take_of_length_le→zF,getElem?_cons_zero→jQ,getElem?_cons_succ→jR,take_zero→qH,all_eq_true→zK,getElem?_append_left→zO,getElem?_drop→qZ,length_set→zV,getD_eq_getElem?_getD→zB,replicate→jJ,drop_eq_nil_of_le→zL,drop_eq_getElem_cons→zX,append_assoc→zJ
open Nat renaming le_of_ble_eq_true→jG,reduceEqDiff→jA,zero_add→jH,add_zero→jI,reduceAdd→jL,le_refl→jO,lt_or_ge→jU
open Option renaming getD_some→jB,getD_none→jK
theorem AZW (m:SM)(k:Nat)(xs:List (List AV)):IW Tryz.prog 33 .eql (.sl m k xs) (.sl .nil 0 [])=some (.bool (decide (m = .nil))):=by cases m <;> kernel_rfl
theorem A1G (h:Hp):FO Tryz.prog false h 33 0 []=some (.sl .full 3 [],h):=by kernel_rfl
theorem A1Z (b n m:Nat):J3 Tryz.prog 199 [(0,.own b 0 n),(1,.mp m)]=some (.agg [.own b 0 n,.mp m,.bool false]):=by kernel_rfl
theorem A08 (h:Hp)(b n m:Nat):MS h (.agg [.own b 0 n,.mp m,.bool false])=some (.ptr h.length 0 0,h++[.live 3 [[.own b 0 n,.mp m,.bool false]]]):=rfl
section
variable (G:Nat→AV)
theorem AK6 (l:Dg)(m:SM)(h2:2≤l.length)(hl:l.length≤8192)(h:Hp):ACalls (En G) 192 [.sl m 3 (l.map D5)] h fun v H=>v = .own h.length 0 l.length∧H=h++[.live 3 (l.map D5)]:=by
 refine ACalls.of_rep (cok 192 G (by kernel_rfl)) ?_
 rintro⟨g,cargs,ha⟩
 have hm:m≠.nil:=fun e=>by
  subst e
  have:=AJ5 ha (i:=0) rfl
  rw[List.map_eq_nil_iff] at this
  rw[this] at h2; simp at h2
 refine acN Tryz.func192 rfl ?_
 show awp _ _ _ _ _ (EE _ [.tmp 2] _)
 have hap:IJ Tryz.prog true h 33 33 (.sl .full 3 []) (.sl m 3 (l.map D5))=some (.own h.length 0 l.length,h++[.live 3 (l.map D5)]):=by
  have:=ASS (P:=Tryz.prog) (t:=33) (h:=h) (xs := []) (x := .sl m 3 (l.map D5)) ATL QX AYZ A06 (OD _ _ _ _) (by intro e; rw[List.map_eq_nil_iff] at e; rw[e] at h2; simp at h2) ⟨by simp; omega,by simp; omega⟩
  rw[this]; simp
 simp -implicitDefEqProofs only[vQ,BF,MV,↓reduceIte,jA,enP,AZW,decide_eq_false hm,A1G,hap]
 exact⟨trivial,trivial⟩
theorem Z5 (bb nb ab:Nat)(l:Dg)(full:Bool)(H:Hp)(s:BS bb nb ab l full H)(f:Nat):ACalls (En G) 154 [.ptr bb 0 0,.int .i64 (f:Nat)] H fun v H'=>ext H H'∧v=if full=true then .tup [.agg [.sl .nil 0 []],.int .i64 0,.int .i64 2] else .tup [.agg [.own nb 0 l.length],.int .i64 (f:Nat),.int .i64 0]:=by
 refine acN Tryz.func154 rfl ?_
 show awp _ _ _ _ _ (EE _ [.cell 4 35,.tmp 5,.tmp 6] _)
 have s1:=s.app (.live 1 [[.sl .nil 0 []]])
 have g1:=CW H (.live 1 [[.sl .nil 0 []]])
 simp -implicitDefEqProofs only[vQ,BF,↓reduceIte,jA,enP,ABL,Q3,s1.ldF]
 cases full
 ·simp -implicitDefEqProofs only[vQ,BF,↓reduceIte,jA,enP,VQ,jK,Bool.false_eq_true,s1.ldN,A1X,APY g1,JI]
  rw[JJ _ _ _ _ _ _ _ _ _ _ _ (show _=AV.ptr H.length 0 0 by simp -implicitDefEqProofs only[AA,↓reduceIte,jA]),show DC Tryz.prog (H++[.live 1 [[.own nb 0 l.length]]]) 35 (.ptr H.length 0 0)=_ from JE (CW H _)]
  simp -implicitDefEqProofs only[AA,↓reduceIte,jA]
  exact⟨_,rfl,(ext.rfl' H).app _,rfl⟩
 ·simp -implicitDefEqProofs only[vQ,BF,↓reduceIte,jA,enP,jK,ZF,LY g1,JI]
  rw[JJ _ _ _ _ _ _ _ _ _ _ _ (show _=AV.ptr H.length 0 0 by simp -implicitDefEqProofs only[AA,↓reduceIte,jA]),show DC Tryz.prog (H++[.live 1 [[.sl .nil 0 []]]]) 35 (.ptr H.length 0 0)=_ from JE (CW H _)]
  simp -implicitDefEqProofs only[AA,↓reduceIte,jA]
  exact⟨_,rfl,(ext.rfl' H).app _,rfl⟩
theorem ADE (l:Dg)(m:SM)(v:VD l)(h:Hp):ACalls (En G) 153 [.agg [.sl m 3 (l.map D5)]] h fun r H=>ext h H∧∃ bb nb ab,r = .ptr bb 0 0∧h.length≤bb∧h.length≤nb∧h.length≤ab∧BS bb nb ab l false H:=by
 have h2:=v.two
 have hx:=v.mx
 refine acN Tryz.func153 rfl ?_
 show awp _ _ _ _ _ (EE _ [.tmp 2] _)
 have gb:=CW h (ABlk.live 1 [[.sl m 3 (l.map D5)]])
 simp -implicitDefEqProofs only[vQ,BF,VW,↓reduceIte,jA,enP,O0,TQ,AF4 gb]
 refine ACalls.mono (AK6 G l m h2 hx _) ?_
 rintro r H ⟨rfl,rfl⟩
 generalize hb0:h++[ABlk.live 1 [[.sl m 3 (l.map D5)]]]=hb at gb ⊢
 have hbl:hb.length=h.length+1:=by rw[← hb0]; simp
 have ex0:ext h hb:=⟨_,hb0.symm⟩
 simp -implicitDefEqProofs only[vQ,BF,U7,↓reduceIte,jA,enP,O0,A1Z,A08]
 generalize hX:hb++[ABlk.live 3 (l.map D5)]++[ABlk.map []]++[ABlk.live 3 [[.own hb.length 0 l.length,.mp (hb++[ABlk.live 3 (l.map D5)]).length,.bool false]]]=X
 have gX:X[h.length]? = some (ABlk.live 1 [[.sl m 3 (l.map D5)]]):=by rw[← hX]; exact BQ (BQ (BQ gb))
 have exX:ext h X:=by rw[← hX]; exact((ex0.app _).app _).app _
 have g1:X[hb.length]? = some (ABlk.live 3 (l.map D5)):=by rw[← hX]; exact BQ (BQ (CW _ _))
 have g2:X[hb.length+1]? = some (ABlk.map []):=by rw[← hX]; refine BQ ?_; simp
 have g3:X[hb.length+2]? = some (ABlk.live 3 [[.own hb.length 0 l.length,.mp (hb.length+1),.bool false]]):=by
  rw[← hX]; simp
 have hl1:(hb++[ABlk.live 3 (l.map D5)]++[ABlk.map []]).length=hb.length+2:=by simp
 have hl2:(hb++[ABlk.live 3 (l.map D5)]).length=hb.length+1:=by simp
 rw[hl1]
 simp -implicitDefEqProofs only[vQ,BF,↓reduceIte,enP,UT,AF4 gX,jM]
 refine DY (fun n F H => ∃ i,n+i=l.length∧F 3 = .ptr (hb.length+2) 0 0∧F 13 = .sl m 3 (l.map D5)∧F 14 = .int .i64 (l.length:Nat)∧F 15 = .int .i64 (i:Nat)∧ext h H∧H[hb.length]? = some (ABlk.live 3 (l.map D5))∧H[hb.length+2]? = some (ABlk.live 3 [[.own hb.length 0 l.length,.mp (hb.length+1),.bool false]])∧H[hb.length+1]? = some (.map ((atE (l.take i) 0).map fun e=>(ecN e.1,e.2)))) l.length
  ⟨0,by simp,by simp -implicitDefEqProofs only[AA,↓reduceIte,jA],by simp -implicitDefEqProofs only[AA,↓reduceIte,jA],by simp -implicitDefEqProofs only[AA,↓reduceIte,jA],by simp -implicitDefEqProofs only[AA,↓reduceIte]; rfl,exX,g1,g3,g2⟩ ?_
 clear g1 g2 g3 gX exX hX
 rintro n F H ⟨i,hi,f3,f13,f14,f15,ex,g1,g3,g2⟩
 simp -implicitDefEqProofs only[vQ,BF,↓reduceIte,enP,f14,f15]
 refine CX (fun hc => ?_) (fun hc => ?_)
 ·have hi':i < l.length:=by simpa using hc
  have sN:FM Tryz.prog (H++[.live 3 [i3 0 0 0]]) 61 (.ptr H.length 0 0) (.agg (D5 l[i]))=some (H++[.live 3 [D5 l[i]]]):=st61 _ _ _ _
  simp -implicitDefEqProofs only[vQ,BF,↓reduceIte,jA,enP,V5,jK,f13,f15,EQ hi',F8 XJ QX ZZ hi',al61,sN]
  refine F7 (by kernel_rfl) ?_
  have l1:DC Tryz.prog (H++[.live 3 [D5 l[i]]]) 197 (.ptr (hb.length+2) 0 1)=some (.mp (hb.length+1)):=by rw[DF ag197 (BQ g3) rfl]; rfl
  have l2:DC Tryz.prog (H++[.live 3 [D5 l[i]]]) 61 (.ptr H.length 0 0)=some (.agg (D5 l[i])):=AAK (CW _ _)
  have hup:JG Tryz.prog (H++[ABlk.live 3 [D5 l[i]]]) 197 (.mp (hb.length+1)) (.agg (D5 l[i])) (.int .i64 (i:Nat))=some ((H++[ABlk.live 3 [D5 l[i]]]).set (hb.length+1) (ABlk.map ((atE (l.take (i+1)) 0).map fun e=>(ecN e.1,e.2)))):=by
   have:=YJ APS AXX ktN (BQ (x := .live 3 [D5 l[i]]) g2) l[i] (.int .i64 (i:Nat))
   have hfk:fk l[i] (atE (l.take i) 0)=none:=by
    rw[AGE]
    cases hq:fnd l[i] (l.take i) with
    | none=>rfl
    | some j =>
      have hj:=U0 hq
      have hlt:j < i:=by have:=RQ hj; rw[zN] at this; omega
      rw[List.getElem?_take,if_pos hlt] at hj
      have:=v.nd j i l[i] hj (jP hi')
      omega
   unfold upK at this
   rw[hfk] at this
   rw[qE hi',ANF,jH,zN,Nat.min_eq_left (by omega)]
   exact this
  simp -implicitDefEqProofs only[vQ,BF,NT,↓reduceIte,jA,jL,enP,AGG,jK,f3,l1,l2,Q4,hup,f15,wrap_succ (show i < 9223372036854775807 by omega)]
  refine⟨n - 1,by omega,i+1,by omega,by trivial,by trivial,by trivial,by trivial,(ex.app _).set (by omega) _,?_,?_,D7 (BQ g2)⟩
  ·rw[jS (by omega)]; exact BQ g1
  ·rw[jS (by omega)]; exact BQ g3
 ·have hi' : ¬ i < l.length:=by simpa using hc
  rw[zF (by omega)] at g2
  simp -implicitDefEqProofs only[vQ,BF,↓reduceIte,jA,f3]
  exact⟨ex,hb.length+2,hb.length,hb.length+1,rfl,by omega,by omega,by omega,g3,g1,g2,by omega,v,fun q=>by cases q⟩
end
theorem AST (op:B3) : ∀ (k:Nat) (l:Dg) (f g h:Nat),VD l→f < l.length→g < l.length→h < l.length→20 < IC l f g h+k→app op (k+1) f g h l=app op k f g h l:=by
 intro k
 induction k with
 | zero =>
   intro l f g h v hf hg hh hk
   have:=v.lv_le hf
   unfold IC at hk
   omega
 | succ k ih =>
   intro l f g h v hf hg hh hk
   have lf:=v.lv_le hf
   have lg:=v.lv_le hg
   have lh:=v.lv_le hh
   rw[show app op (k+1+1) f g h l=if IC l f g h=20 then some (tn (op (f == 1) (g == 1) (h == 1)),l) else
    ((app op (k+1) (half l f (IC l f g h) false) (half l g (IC l f g h) false) (half l h (IC l f g h) false)).bnd fun lo =>
      (app op (k+1) (half l f (IC l f g h) true) (half l g (IC l f g h) true) (half l h (IC l f g h) true)).bnd fun hi=>mk (IC l f g h) lo hi) l from rfl,
    show app op (k+1) f g h l=if IC l f g h=20 then some (tn (op (f == 1) (g == 1) (h == 1)),l) else
    ((app op k (half l f (IC l f g h) false) (half l g (IC l f g h) false) (half l h (IC l f g h) false)).bnd fun lo =>
      (app op k (half l f (IC l f g h) true) (half l g (IC l f g h) true) (half l h (IC l f g h) true)).bnd fun hi=>mk (IC l f g h) lo hi) l from rfl]
   generalize hm:IC l f g h=lv at *
   by_cases h20:lv=20
   ·rw[if_pos h20,if_pos h20]
   rw[if_neg h20,if_neg h20]
   have m1:lv≤(nth l f).lv∧lv≤(nth l g).lv∧lv≤(nth l h).lv:=by rw[← hm]; unfold IC; omega
   have h20':lv < 20:=by omega
   have hl0 : ∀ one,half l f lv one < l.length∧lv < (nth l (half l f lv one)).lv:=fun one=>P5 v hf one h20' m1.1
   have hl1 : ∀ one,half l g lv one < l.length∧lv < (nth l (half l g lv one)).lv:=fun one=>P5 v hg one h20' m1.2.1
   have hl2 : ∀ one,half l h lv one < l.length∧lv < (nth l (half l h lv one)).lv:=fun one=>P5 v hh one h20' m1.2.2
   have m2 : ∀ one,lv < IC l (half l f lv one) (half l g lv one) (half l h lv one):=fun one=>by
    have:=(hl0 one).2; have:=(hl1 one).2; have:=(hl2 one).2
    unfold IC; omega
   have e0:=ih l _ _ _ v (hl0 false).1 (hl1 false).1 (hl2 false).1 (by have:=m2 false; omega)
   unfold M.bnd
   rw[e0]
   cases hq:app op k (half l f lv false) (half l g lv false) (half l h lv false) l with
   | none=>rfl
   | some p =>
     obtain⟨r1,l1⟩:=p
     obtain⟨v1,x1,_,_⟩:=ALI op k l _ _ _ v (hl0 false).1 (hl1 false).1 (hl2 false).1 (by have:=m2 false; omega) r1 l1 hq
     have e1:=ih l1 (half l f lv true) (half l g lv true) (half l h lv true) v1 (x1.lt (hl0 true).1) (x1.lt (hl1 true).1) (x1.lt (hl2 true).1) (by
      have:IC l1 (half l f lv true) (half l g lv true) (half l h lv true)=IC l (half l f lv true) (half l g lv true) (half l h lv true):=by
       unfold IC; rw[x1.nth (hl0 true).1,x1.nth (hl1 true).1,x1.nth (hl2 true).1]
      rw[this]; have:=m2 true; omega)
     simp only
     rw[e1]
theorem AYT (op:B3){l:Dg}{f g h:Nat}(h20:IC l f g h=20):ap op f g h l=some (tn (op (f == 1) (g == 1) (h == 1)),l):=by
 unfold ap app
 rw[if_pos h20]
theorem AVM (op:B3){l:Dg}{f g h lv:Nat}(v:VD l)(hf:f < l.length)(hg:g < l.length)(hh:h < l.length)(hm:IC l f g h=lv)(h20:lv≠20) :
  ap op f g h l=((ap op (half l f lv false) (half l g lv false) (half l h lv false)).bnd fun lo=>(ap op (half l f lv true) (half l g lv true) (half l h lv true)).bnd fun hi=>mk lv lo hi) l:=by
 have lf:=v.lv_le hf
 have e:=(AST op 21 l f g h v hf hg hh (by omega)).symm
 unfold ap
 rw[e]
 rw[show app op (21+1) f g h l=if IC l f g h=20 then some (tn (op (f == 1) (g == 1) (h == 1)),l) else
    ((app op 21 (half l f (IC l f g h) false) (half l g (IC l f g h) false) (half l h (IC l f g h) false)).bnd fun lo =>
      (app op 21 (half l f (IC l f g h) true) (half l g (IC l f g h) true) (half l h (IC l f g h) true)).bnd fun hi=>mk (IC l f g h) lo hi) l from rfl,hm,if_neg h20]
theorem NH (op:B3){l l':Dg}{f g h r:Nat}(v:VD l)(hf:f < l.length)(hg:g < l.length)(hh:h < l.length)(e:ap op f g h l=some (r,l')):VD l'∧Xt l l'∧(∀ l'',VD l''→Xt l' l''→ap op f g h l''=some (r,l''))∧r < l'.length∧IC l f g h≤(nth l' r).lv:=by
 obtain⟨a,b,c,d⟩:=ALI op 21 l f g h v hf hg hh (by omega) r l' e
 exact⟨a,b,c,d.1,d.2.1⟩
def Mem (op:B3)(l:Dg)(e:T3 × AV):Prop := ∃ r:Nat,e.2 = .int .i64 (r:Nat)∧e.1.f < l.length∧e.1.g < l.length∧e.1.h < l.length∧ap op e.1.f e.1.g e.1.h l=some (r,l)
theorem Mem.go {op:B3}{l l':Dg}{e:T3 × AV}(h:Mem op l e)(v:VD l)(v':VD l')(x:Xt l l'):Mem op l' e:=by
 obtain⟨r,h1,h2,h3,h4,h5⟩:=h
 exact⟨r,h1,x.lt h2,x.lt h3,x.lt h4,(NH op v h2 h3 h4 h5).2.2.1 l' v' x⟩
structure OS (ob bb nb ab kb:Nat) (fo:FuncId) (op:B3) (l:Dg) (full:Bool) (H:Hp):Prop where
 s:BS bb nb ab l full H
 o:H[ob]? = some (.live 3 [[.ptr bb 0 0,.fn (.func fo) [] [],.mp kb]])
 k : ∃ es:List (T3 × AV),H[kb]? = some (.map (es.map fun e=>(ecT e.1,e.2)))∧(∀ e∈es,∃ n:Nat,e.2 = .int .i64 (n:Nat))∧(full=false→∀ e∈es,Mem op l e)
 on:ob≠nb
 kn:kb≠ab
theorem ag171:JK Tryz.prog 171=some false:=by kernel_rfl
theorem ag133:JK Tryz.prog 133=some false:=by kernel_rfl
theorem ag173:JK Tryz.prog 173=some false:=by kernel_rfl
section
variable {ob bb nb ab kb:Nat} {fo:FuncId} {op:B3} {l:Dg} {full:Bool} {H:Hp}
theorem OS.ob_ne (s:OS ob bb nb ab kb fo op l full H):ob≠bb∧ob≠ab∧ob≠kb:=by
 obtain⟨es,hk,_⟩:=s.k
 exact⟨fun e=>(by have:=s.o; rw[e,s.s.b] at this; cases this),fun e=>(by have:=s.o; rw[e,s.s.a] at this; cases this),fun e=>(by have:=s.o; rw[e,hk] at this; cases this)⟩
theorem OS.kb_ne (s:OS ob bb nb ab kb fo op l full H):kb≠bb∧kb≠nb:=by
 obtain⟨es,hk,_⟩:=s.k
 exact⟨fun e=>(by have:=s.s.b; rw[← e,hk] at this; cases this),fun e=>(by have:=s.s.n; rw[← e,hk] at this; cases this)⟩
theorem OS.app (s:OS ob bb nb ab kb fo op l full H)(x:ABlk):OS ob bb nb ab kb fo op l full (H++[x]):=by
 obtain⟨es,hk,hr⟩:=s.k
 exact⟨s.s.app x,BQ s.o,⟨es,BQ hk,hr⟩,s.on,s.kn⟩
theorem OS.ext {H':Hp}(s:OS ob bb nb ab kb fo op l full H)(x:Sm.ext H H'):OS ob bb nb ab kb fo op l full H':=by
 obtain⟨es,hk,hr⟩:=s.k
 exact⟨s.s.ext x,FC x s.o,⟨es,FC x hk,hr⟩,s.on,s.kn⟩
theorem OS.ld0 (s:OS ob bb nb ab kb fo op l full H):DC Tryz.prog H 171 (.ptr ob 0 0)=some (.ptr bb 0 0):=by rw[DF ag171 s.o rfl]; rfl
theorem OS.ld1 (s:OS ob bb nb ab kb fo op l full H):DC Tryz.prog H 133 (.ptr ob 0 1)=some (.fn (.func fo) [] []):=by rw[DF ag133 s.o rfl]; rfl
theorem OS.ld2 (s:OS ob bb nb ab kb fo op l full H):DC Tryz.prog H 173 (.ptr ob 0 2)=some (.mp kb):=by rw[DF ag173 s.o rfl]; rfl
theorem OS.lt (s:OS ob bb nb ab kb fo op l full H):ob < H.length∧bb < H.length∧nb < H.length∧ab < H.length∧kb < H.length:=by
 obtain⟨es,hk,_⟩:=s.k
 exact⟨CE s.o,CE s.s.b,CE s.s.n,CE s.s.a,CE hk⟩
end
theorem AL8 {κ:Type} [DecidableEq κ] {es:List (κ × AV)}{x:κ}{v:AV}{e:κ × AV}(h:e∈upK es x v):e∈es∨e=(x,v):=by
 unfold upK at h
 split at h
 ·exact(List.mem_or_eq_of_mem_set h).imp id id
 ·rcases List.mem_append.1 h with h | h
  ·exact .inl h
  ·exact .inr (List.mem_singleton.1 h)
def AP (ob bb ab kb:Nat)(fo:FuncId)(op:B3)(nb:Nat)(H:Hp)(full:Bool)(l:Dg)(o:Option (Nat × Dg))(v:AV)(H':Hp):Prop :=
 ∃ nb',Kd [bb,ab,kb] nb nb' H H'∧((full=false∧∃ r l',o=some (r,l')∧v = .int .i64 (r:Nat)∧OS ob bb nb' ab kb fo op l' false H')∨((full=true∨o=none)∧(∃ n:Nat,v = .int .i64 (n:Nat))∧∃ l',Xt l l'∧OS ob bb nb' ab kb fo op l' true H'))
theorem A1B (h:Hp)(a b c:Int):MS h (.agg (i3 a b c))=some (.ptr h.length 0 0,h++[.live 3 [i3 a b c]]):=rfl
theorem ADF (a b c:Int):J3 Tryz.prog 132 [(0,.int .i64 a),(1,.int .i64 b),(2,.int .i64 c)]=some (.agg (i3 a b c)):=by kernel_rfl
theorem AF3 {h:Hp}{b:Nat}{a c d:Int}(hb:h[b]? = some (.live 3 [i3 a c d])):DC Tryz.prog h 132 (.ptr b 0 0)=some (.agg (i3 a c d)):=by
 rw[G5 A18 AZH hb (row:=i3 a c d) rfl (jO 3)]; rfl
theorem AOC (a b c:Nat):min (min (a:Int) (b:Int)) (c:Int)=((min (min a b) c:Nat):Int):=by omega
theorem eq1 (f:Nat):(((f:Nat):Int) == 1)=(f == 1):=by rw[zZ]; simp; omega
theorem A3D (f:Nat):(((f:Nat):Int) == 20)=decide (f=20):=by rw[zZ]; simp; omega
theorem AXT {h:Hp}{b:Nat}{es:List (T3 × AV)}(hb:h[b]? = some (.map (es.map fun e=>(ecT e.1,e.2))))(x:T3) :
  (fk x es=none∧JD Tryz.prog h 173 (.mp b) (.agg (RX x)) true=some (.tup [.int .i64 0,.bool false]))∨∃ v,(x,v)∈es∧JD Tryz.prog h 173 (.mp b) (.agg (RX x)) true=some (.tup [v,.bool true]):=by
 have e:JD Tryz.prog h 173 (.mp b) (.agg (RX x)) true=_:=AF2 AV4 A0B ktT zr3 hb x true
 cases hx:fk x es with
 | none=>rw[hx] at e; exact .inl ⟨rfl,e⟩
 | some i =>
   obtain⟨v,hv⟩:=ABK hx
   rw[hx] at e
   simp only[Option.bind_some,hv] at e
   exact .inr ⟨v,List.mem_of_getElem? hv,e⟩
section
variable (G:Nat→AV) {ob bb ab kb:Nat} {fo:FuncId} {op:B3}
theorem ALH (nb:Nat)(l:Dg)(H:Hp)(x:T3)(s:OS ob bb nb ab kb fo op l true H):ACalls (En G) 155 [.ptr ob 0 0,.agg (RX x)] H (AP ob bb ab kb fo op nb H true l (ap op x.f x.g x.h l)):=by
 refine acN Tryz.func155 rfl ?_
 show awp _ _ _ _ _ (EE _ [.tmp 4] _)
 have s1:=s.app (.live 3 [RX x])
 have bx:MS H (.agg (RX x))=some (.ptr H.length 0 0,H++[.live 3 [RX x]]):=rfl
 simp -implicitDefEqProofs only[vQ,BF,↓reduceIte,jA,enP,P6,ABL,bx,s1.ld0,s1.s.ldF]
 exact⟨nb,(Kd.rfl' _ _ _).app _,.inr ⟨.inl rfl,⟨0,rfl⟩,l,Xt.rfl' l,s1⟩⟩
set_option maxHeartbeats 4000000 in
theorem ALG (hfo : ∀ (a b c:Bool) (H:Hp),PCall (En G) fo [.bool a,.bool b,.bool c] H (.bool (op a b c))) : ∀ (k nb:Nat) (l:Dg) (H:Hp) (x:T3),OS ob bb nb ab kb fo op l false H→x.f < l.length→x.g < l.length→x.h < l.length→20 < IC l x.f x.g x.h+k →
  ACalls (En G) 155 [.ptr ob 0 0,.agg (RX x)] H (AP ob bb ab kb fo op nb H false l (ap op x.f x.g x.h l)):=by
 intro k
 induction k with
 | zero =>
   intro nb l H x s hf hg hh hk
   have:=s.s.v.lv_le hf
   unfold IC at hk
   omega
 | succ k ih =>
 intro nb l H x s hf hg hh hk
 have v:=s.s.v
 have lf:=v.lv_le hf
 have lg:=v.lv_le hg
 have lh:=v.lv_le hh
 refine acN Tryz.func155 rfl ?_
 show awp _ _ _ _ _ (EE _ [.tmp 4] _)
 have s1:=s.app (.live 3 [RX x])
 have k1:Kd [bb,ab,kb] nb nb H (H++[.live 3 [RX x]]):=(Kd.rfl' _ _ _).app _
 have bx:MS H (.agg (RX x))=some (.ptr H.length 0 0,H++[.live 3 [RX x]]):=rfl
 have gx:=CW H (ABlk.live 3 [RX x])
 simp -implicitDefEqProofs only[vQ,BF,↓reduceIte,jA,enP,P6,ABL,bx,s1.ld0,s1.s.ldF]
 have olt:=s.lt
 have bl:(H++[ABlk.live 3 [RX x]]).length=H.length+1:=by simp
 generalize hH1:H++[ABlk.live 3 [RX x]]=H1 at s1 k1 gx bl ⊢
 have xl:=ldi gx
 refine F7 (by kernel_rfl) ?_
 simp -implicitDefEqProofs only[vQ,JY,BF,↓reduceIte,jA,jL,enP,V5,OA,Y3,Y2,Y0,P6,VQ,s1.ld0,s1.s.ldN,xl.1,xl.2.1,xl.2.2,(s1.s.at hf).1,(s1.s.at hf).2.2,(s1.s.at hg).1,(s1.s.at hg).2.2,(s1.s.at hh).1,(s1.s.at hh).2.2,AW5,AUG,AOC]
 rw[show min (min (nth l x.f).lv (nth l x.g).lv) (nth l x.h).lv=IC l x.f x.g x.h from rfl]
 generalize hm:IC l x.f x.g x.h=lv at hk ⊢
 have m1:lv≤(nth l x.f).lv∧lv≤(nth l x.g).lv∧lv≤(nth l x.h).lv:=by rw[← hm]; unfold IC; omega
 simp -implicitDefEqProofs only[A3D]
 by_cases h20:lv=20
 ·rw[decide_eq_true h20]
  have hap:ap op x.f x.g x.h l=some (tn (op (x.f == 1) (x.g == 1) (x.h == 1)),l):=AYT op (by omega)
  simp -implicitDefEqProofs only[vQ]
  refine F7 (by kernel_rfl) ?_
  simp -implicitDefEqProofs only[vQ,↓reduceIte,jA,jL,enP,Y3,Y2,Y0,AU3,s1.ld1,xl.1,xl.2.1,xl.2.2,eq1]
  refine⟨_,hfo _ _ _ _,?_⟩
  cases hb:op (x.f == 1) (x.g == 1) (x.h == 1)
  ·rw[hb] at hap
   simp -implicitDefEqProofs only[vQ,BF,↓reduceIte]
   exact⟨nb,k1,.inl ⟨rfl,0,l,hap,rfl,s1⟩⟩
  ·rw[hb] at hap
   simp -implicitDefEqProofs only[vQ,BF,↓reduceIte]
   exact⟨nb,k1,.inl ⟨rfl,1,l,hap,rfl,s1⟩⟩
 rw[decide_eq_false h20]
 have h20':lv < 20:=by omega
 simp -implicitDefEqProofs only[vQ]
 refine F7 (by kernel_rfl) ?_
 obtain⟨es,hes,hev,hem⟩:=s1.k
 rcases AXT hes x with⟨hfk,hlk⟩ | ⟨w,hw,hlk⟩
 case inr =>
  obtain⟨r,hr,_,_,_,hap⟩:=hem rfl _ hw
  have hr:w = .int .i64 (r:Nat):=hr
  subst hr
  simp -implicitDefEqProofs only[vQ,jQ,jR,JQ,BF,RY,ABU,↓reduceIte,jA,jL,enP,AGH,s1.ld2,AF3 gx,show JD Tryz.prog H1 173 (.mp kb) (.agg (i3 x.f x.g x.h)) true=_ from hlk]
  exact⟨nb,k1,.inl ⟨rfl,r,l,hap,rfl,s1⟩⟩
 simp -implicitDefEqProofs only[vQ,jQ,jR,JQ,BF,RY,ABU,↓reduceIte,jA,jL,enP,AGH,s1.ld2,AF3 gx,show JD Tryz.prog H1 173 (.mp kb) (.agg (i3 x.f x.g x.h)) true=_ from hlk]
 -- both branches
 have hl0 : ∀ one,half l x.f lv one < l.length∧lv < (nth l (half l x.f lv one)).lv:=fun one=>P5 v hf one h20' m1.1
 have hl1 : ∀ one,half l x.g lv one < l.length∧lv < (nth l (half l x.g lv one)).lv:=fun one=>P5 v hg one h20' m1.2.1
 have hl2 : ∀ one,half l x.h lv one < l.length∧lv < (nth l (half l x.h lv one)).lv:=fun one=>P5 v hh one h20' m1.2.2
 have m2 : ∀ one,lv < IC l (half l x.f lv one) (half l x.g lv one) (half l x.h lv one):=fun one=>by
  have:=(hl0 one).2; have:=(hl1 one).2; have:=(hl2 one).2
  unfold IC; omega
 have hstep:=AVM op v hf hg hh hm h20
 refine VU 26 _ _ (by kernel_rfl) rfl rfl rfl rfl ?_
 simp only[List.take_succ_cons,qH]
 simp -implicitDefEqProofs only[vQ,↓reduceIte,jA,jL,enP,Y3,Y2,P6,s1.ld0,xl.1]
 refine⟨_,P9 G bb nb ab l false H1 s1.s x.f lv hf false,?_⟩
 simp -implicitDefEqProofs only[vQ,↓reduceIte,jA,jL,enP,Y0,P6,s1.ld0,xl.2.1]
 refine⟨_,P9 G bb nb ab l false H1 s1.s x.g lv hg false,?_⟩
 simp -implicitDefEqProofs only[vQ,ABA,↓reduceIte,jA,jL,enP,s1.ld0,xl.2.2]
 refine⟨_,P9 G bb nb ab l false H1 s1.s x.h lv hh false,?_⟩
 simp -implicitDefEqProofs only[vQ,↓reduceIte,jA,ADF]
 refine ACalls.mono (ih nb l H1 ⟨half l x.f lv false,half l x.g lv false,half l x.h lv false⟩ s1 (hl0 false).1 (hl1 false).1 (hl2 false).1 (by have:=m2 false; show 20 < IC l (half l x.f lv false) (half l x.g lv false) (half l x.h lv false)+k; omega)) ?_
 rintro r1 H2 ⟨nb2,k2,hcase⟩
 have gx2:H2[H.length]? = some (ABlk.live 3 [RX x]):=k2.keep _ _ gx (by simp; omega) (by omega)
 have k12:=k1.trans k2
 have xl2:=ldi gx2
 -- behind the first branch: the diagram and whether it is full
 obtain⟨l2,full2,n1,e1,s2,x2,hsp⟩ : ∃ (l2:Dg) (full2:Bool) (n1:Nat),r1 = .int .i64 (n1:Nat)∧OS ob bb nb2 ab kb fo op l2 full2 H2∧Xt l l2∧((full2=false∧ap op (half l x.f lv false) (half l x.g lv false) (half l x.h lv false) l=some (n1,l2))∨(full2=true∧ap op (half l x.f lv false) (half l x.g lv false) (half l x.h lv false) l=none)):=by
  rcases hcase with⟨_,r,l',ha,hr,s'⟩ | ⟨ha,⟨n,hn⟩,l',x',s'⟩
  ·exact⟨l',false,r,hr,s',(NH op v (hl0 false).1 (hl1 false).1 (hl2 false).1 ha).2.1,.inl ⟨rfl,ha⟩⟩
  ·rcases ha with ha | ha
   ·cases ha
   ·exact⟨l',true,n,hn,s',x',.inr ⟨rfl,ha⟩⟩
 subst e1
 have v2:=s2.s.v
 have hv2 : ∀ f one,f < l.length→half l2 f lv one=half l f lv one:=fun f one hfl=>by unfold half; rw[x2.nth hfl]
 simp -implicitDefEqProofs only[vQ,↓reduceIte]
 refine VU 26 _ _ (by kernel_rfl) rfl rfl rfl rfl ?_
 simp only[List.take_succ_cons,qH]
 simp -implicitDefEqProofs only[vQ,↓reduceIte,jA,jL,enP,Y3,Y2,P6,s2.ld0,xl2.1]
 refine⟨_,P9 G bb nb2 ab l2 full2 H2 s2.s x.f lv (x2.lt hf) true,?_⟩
 simp -implicitDefEqProofs only[vQ,↓reduceIte,jA,jL,enP,Y0,P6,s2.ld0,xl2.2.1]
 refine⟨_,P9 G bb nb2 ab l2 full2 H2 s2.s x.g lv (x2.lt hg) true,?_⟩
 simp -implicitDefEqProofs only[vQ,ABA,↓reduceIte,jA,jL,enP,s2.ld0,xl2.2.2]
 refine⟨_,P9 G bb nb2 ab l2 full2 H2 s2.s x.h lv (x2.lt hh) true,?_⟩
 simp -implicitDefEqProofs only[vQ,BF,↓reduceIte,jA,ADF,hv2 _ _ hf,hv2 _ _ hg,hv2 _ _ hh]
 have hcall:ACalls (En G) 155 [.ptr ob 0 0,.agg (RX ⟨half l x.f lv true,half l x.g lv true,half l x.h lv true⟩)] H2 (AP ob bb ab kb fo op nb2 H2 full2 l2 (ap op (half l x.f lv true) (half l x.g lv true) (half l x.h lv true) l2)):=by
  cases full2 with
  | true=>exact ALH G nb2 l2 H2 ⟨half l x.f lv true,half l x.g lv true,half l x.h lv true⟩ s2
  | false =>
    refine ih nb2 l2 H2 ⟨half l x.f lv true,half l x.g lv true,half l x.h lv true⟩ s2 (x2.lt (hl0 true).1) (x2.lt (hl1 true).1) (x2.lt (hl2 true).1) ?_
    show 20 < IC l2 (half l x.f lv true) (half l x.g lv true) (half l x.h lv true)+k
    have:IC l2 (half l x.f lv true) (half l x.g lv true) (half l x.h lv true)=IC l (half l x.f lv true) (half l x.g lv true) (half l x.h lv true):=by
     unfold IC; rw[x2.nth (hl0 true).1,x2.nth (hl1 true).1,x2.nth (hl2 true).1]
    rw[this]; have:=m2 true; omega
 refine ACalls.mono hcall ?_
 rintro r2 H3 ⟨nb3,k3,hcase2⟩
 have gx3:H3[H.length]? = some (ABlk.live 3 [RX x]):=k3.keep _ _ gx2 (by simp; omega) (by rcases k2.nn with e | e <;> omega)
 have k13:=k12.trans k3
 have xl3:=ldi gx3
 obtain⟨l3,full3,n2,e2,s3,x3,hsp2⟩ : ∃ (l3:Dg) (full3:Bool) (n2:Nat),r2 = .int .i64 (n2:Nat)∧OS ob bb nb3 ab kb fo op l3 full3 H3∧Xt l2 l3∧((full3=false∧full2=false∧ap op (half l x.f lv true) (half l x.g lv true) (half l x.h lv true) l2=some (n2,l3))∨(full3=true∧(full2=true∨ap op (half l x.f lv true) (half l x.g lv true) (half l x.h lv true) l2=none))):=by
  rcases hcase2 with⟨hf2,r,l',ha,hr,s'⟩ | ⟨ha,⟨n,hn⟩,l',x',s'⟩
  ·exact⟨l',false,r,hr,s',(NH op v2 (x2.lt (hl0 true).1) (x2.lt (hl1 true).1) (x2.lt (hl2 true).1) ha).2.1,.inl ⟨rfl,hf2,ha⟩⟩
  ·exact⟨l',true,n,hn,s',x',.inr ⟨rfl,ha⟩⟩
 subst e2
 have v3:=s3.s.v
 have x13:=x2.trans x3
 simp -implicitDefEqProofs only[vQ,BF,↓reduceIte,jA,enP,P6,s3.ld0]
 -- the node
 have hnode:=node_prog G bb nb3 ab l3 full3 H3 s3.s lv n1 n2 (fun hf3=>by
  rcases hsp2 with⟨_,hf2,ha2⟩ | ⟨q,_⟩
  ·rcases hsp with⟨_,ha1⟩ | ⟨q,_⟩
   ·obtain⟨_,_,_,p1,p2⟩:=NH op v (hl0 false).1 (hl1 false).1 (hl2 false).1 ha1
    obtain⟨_,_,_,p3,p4⟩:=NH op v2 (x2.lt (hl0 true).1) (x2.lt (hl1 true).1) (x2.lt (hl2 true).1) ha2
    have e:IC l2 (half l x.f lv true) (half l x.g lv true) (half l x.h lv true)=IC l (half l x.f lv true) (half l x.g lv true) (half l x.h lv true):=by
     unfold IC; rw[x2.nth (hl0 true).1,x2.nth (hl1 true).1,x2.nth (hl2 true).1]
    rw[e] at p4
    refine⟨h20',x3.lt p1,p3,?_,?_⟩
    ·rw[x3.nth p1]; have:=m2 false; omega
    ·have:=m2 true; omega
   ·rw[hf2] at q; cases q
  ·rw[hf3] at q; cases q)
 refine ACalls.mono hnode ?_
 rintro r3 H4 ⟨nb4,k4,hcase3⟩
 have gx4:H4[H.length]? = some (ABlk.live 3 [RX x]):=k4.keep _ _ gx3 (by simp; omega) (by have:=k2.len; rcases k3.nn with e | e <;> rcases k2.nn with e' | e' <;> omega)
 have k14:=k13.trans (k4.sub (T := [bb,ab,kb]) (by simp))
 -- what lies beside the builder is as it was
 have ho4:H4[ob]? = some (.live 3 [[.ptr bb 0 0,.fn (.func fo) [] [],.mp kb]]):=k4.keep _ _ s3.o (by simp; exact⟨s3.ob_ne.1,s3.ob_ne.2.1⟩) s3.on
 obtain⟨es3,hes3,hev3,hem3⟩:=s3.k
 have hk4:H4[kb]? = some (.map (es3.map fun e=>(ecT e.1,e.2))):=k4.keep _ _ hes3 (by simp; exact⟨s3.kb_ne.1,s3.kn⟩) s3.kb_ne.2
 have hon4:ob≠nb4:=by
  rcases k4.nn with e | e
  ·rw[e]; exact s3.on
  ·have:=s3.lt.1; omega
 have hkn4:kb≠nb4:=by
  rcases k4.nn with e | e
  ·rw[e]; exact s3.kb_ne.2
  ·have:=s3.lt.2.2.2.2; omega
 obtain⟨l4,full4,n3,e3,b4,x4,hsp3⟩ : ∃ (l4:Dg) (full4:Bool) (n3:Nat),r3 = .int .i64 (n3:Nat)∧BS bb nb4 ab l4 full4 H4∧Xt l3 l4∧((full4=false∧full3=false∧mk lv n1 n2 l3=some (n3,l4))∨(full4=true∧(full3=true∨mk lv n1 n2 l3=none))):=by
  rcases hcase3 with⟨hf3,r,l',ha,hr,s'⟩ | ⟨ha,⟨n,hn⟩,l',x',s'⟩
  ·refine⟨l',false,r,hr,s',?_,.inl ⟨rfl,hf3,ha⟩⟩
   unfold mk at ha
   split at ha
   ·cases ha; exact Xt.rfl' _
   ·split at ha
    ·cases ha; exact Xt.rfl' _
    ·split at ha
     ·cases ha
     ·cases ha; exact⟨_,rfl⟩
  ·exact⟨l',true,n,hn,s',x',.inr ⟨rfl,ha⟩⟩
 subst e3
 have x14:=x13.trans x4
 -- the whole operation
 have hall:(full4=false→ap op x.f x.g x.h l=some (n3,l4))∧(full4=true→ap op x.f x.g x.h l=none):=by
  constructor
  ·intro q
   rcases hsp3 with⟨_,hf3,ha3⟩ | ⟨q',_⟩
   ·rcases hsp2 with⟨_,hf2,ha2⟩ | ⟨q',_⟩
    ·rcases hsp with⟨_,ha1⟩ | ⟨q',_⟩
     ·rw[hstep,OG ha1,OG ha2]; exact ha3
     ·rw[hf2] at q'; cases q'
    ·rw[hf3] at q'; cases q'
   ·rw[q] at q'; cases q'
  ·intro q
   rcases hsp3 with⟨q',_⟩ | ⟨_,hor⟩
   ·rw[q] at q'; cases q'
   ·rw[hstep]
    rcases hsp with⟨hf2,ha1⟩ | ⟨_,ha1⟩
    ·rw[OG ha1]
     rcases hsp2 with⟨hf3,_,ha2⟩ | ⟨hf3,hor2⟩
     ·rw[OG ha2]
      rcases hor with h | h
      ·rw[hf3] at h; cases h
      ·exact h
     ·rcases hor2 with h | h
      ·rw[hf2] at h; cases h
      ·exact SV h
    ·exact SV ha1
 simp -implicitDefEqProofs only[vQ,BF,↓reduceIte]
 refine F7 (by kernel_rfl) ?_
 have l4o:DC Tryz.prog H4 173 (.ptr ob 0 2)=some (.mp kb):=by rw[DF ag173 ho4 rfl]; rfl
 have hup:JG Tryz.prog H4 173 (.mp kb) (.agg (i3 x.f x.g x.h)) (.int .i64 (n3:Nat))=some (H4.set kb (.map ((upK es3 x (.int .i64 (n3:Nat))).map fun e=>(ecT e.1,e.2)))):=YJ AV4 A0B ktT hk4 x _
 simp -implicitDefEqProofs only[vQ,BF,NT,↓reduceIte,jA,jL,enP,AGH,jK,l4o,AF3 gx4,Q4,hup]
 have hkb:=CE hk4
 have s5:OS ob bb nb4 ab kb fo op l4 full4 (H4.set kb (.map ((upK es3 x (.int .i64 (n3:Nat))).map fun e=>(ecT e.1,e.2)))):=by
  refine⟨b4.set s3.kb_ne.1 hkn4 s3.kn _,by rw[jS (Ne.symm s3.ob_ne.2.2)]; exact ho4,⟨_,D7 hk4,fun e he => ?_,fun hf4 e he => ?_⟩,hon4,s3.kn⟩
  ·rcases AL8 he with he | rfl
   ·exact hev3 e he
   ·exact⟨n3,rfl⟩
  ·rcases AL8 he with he | rfl
   ·have hf3:full3=false:=by
     rcases hsp3 with⟨_,hf3,_⟩ | ⟨q,_⟩
     ·exact hf3
     ·rw[hf4] at q; cases q
    exact(hem3 hf3 e he).go v3 b4.v x4
   ·have:=hall.1 hf4
    exact⟨n3,rfl,x14.lt hf,x14.lt hg,x14.lt hh,(NH op v hf hg hh this).2.2.1 l4 b4.v (Xt.rfl' _)⟩
 refine⟨nb4,k14.setS (.inl (by simp)) _,?_⟩
 cases full4 with
 | false=>exact .inl ⟨rfl,n3,l4,hall.1 rfl,rfl,s5⟩
 | true=>exact .inr ⟨.inr (hall.2 rfl),⟨n3,rfl⟩,l4,x14,s5⟩
end
def dgA (m:SM)(l:Dg):AV := .agg [.sl m 3 (l.map D5)]
def dgV (o:Option (Nat × Dg)):AV:=match o with
 | some (r,l) => .tup [dgA .any l,.int .i64 (r:Nat),.int .i64 0]
 | none => .tup [.agg [.sl .nil 0 []],.int .i64 0,.int .i64 2]
theorem AUY {l:Dg}{fs:List Nat}(h : ∀ f∈fs,f < l.length):AIF (l.map Nd.raw) (fs.map fun f:Nat=>(f:Int))=true:=by
 unfold AIF
 rw[List.all_map,zK]
 intro f hf
 have:=h f hf
 rw[jM]
 simp only[Function.comp,jW,decide_eq_true_eq]
 omega
theorem AYM (h:Hp)(a b c:Int):FO Tryz.prog false h 29 3 [(0,.int .i64 a),(1,.int .i64 b),(2,.int .i64 c)]=some (.sl .full 1 [[.int .i64 a],[.int .i64 b],[.int .i64 c]],h):=by kernel_rfl
theorem AYN (h:Hp)(a b:Int):FO Tryz.prog false h 29 2 [(0,.int .i64 a),(1,.int .i64 b)]=some (.sl .full 1 [[.int .i64 a],[.int .i64 b]],h):=by kernel_rfl
theorem A10 (b:Nat)(fo:FuncId)(m:Nat):J3 Tryz.prog 175 [(0,.ptr b 0 0),(1,.fn (.func fo) [] []),(2,.mp m)]=some (.agg [.ptr b 0 0,.fn (.func fo) [] [],.mp m]):=by kernel_rfl
theorem A09 (h:Hp)(b:Nat)(fo:FuncId)(m:Nat):MS h (.agg [.ptr b 0 0,.fn (.func fo) [] [],.mp m])=some (.ptr h.length 0 0,h++[.live 3 [[.ptr b 0 0,.fn (.func fo) [] [],.mp m]]]):=rfl
theorem ARD {n:Nat}{h:Hp}{b:Nat}{l:Dg}{x y:Int}(hn:n≤b)(hb:h[b]? = some (.live 3 (l.map D5))):JS n h 4 (.tup [.agg [.own b 0 l.length],.int .i64 x,.int .i64 y]) = .tup [dgA .any l,.int .i64 x,.int .i64 y]:=by
 have e:=YT (d:=0) A0I hn hb
 show AV.tup [.agg [JS n h 2 (.own b 0 l.length)],.int .i64 x,.int .i64 y]=_
 rw[e]; rfl
section
variable (G:Nat→AV)
theorem AKK (l:Dg)(m:SM)(v:VD l)(fs:List Nat)(m':SM)(hf : ∀ f∈fs,f < l.length)(hfl:fs.length≤1048576)(h:Hp):PCall (En G) 67 [dgA m l,.sl m' 1 ((fs.map fun f:Nat=>(f:Int)).map qencI)] h (.bool true):=by
 have:=AQ7 G (l.map Nd.raw) m (by rw[jM]; have:=v.mx; omega) (fs.map fun f:Nat=>(f:Int)) m' (by rw[jM]; exact hfl) h
 rw[TG,AJQ v,AUY hf] at this
 exact this
set_option maxHeartbeats 1000000 in
theorem PI {fo:FuncId}{op:B3}(hfo : ∀ (a b c:Bool) (H:Hp),PCall (En G) fo [.bool a,.bool b,.bool c] H (.bool (op a b c)))(l:Dg)(m:SM)(v:VD l)(f g k:Nat)(hf:f < l.length)(hg:g < l.length)(hk:k < l.length)(h:Hp) :
  PCall (En G) 105 [dgA m l,.agg (i3 f g k),.fn (.func fo) [] []] h (dgV (ap op f g k l)):=by
 refine ACalls.pure 4 (R:=fun r H=>ext h H∧((∃ n l' b,ap op f g k l=some (n,l')∧h.length≤b∧r = .tup [.agg [.own b 0 l'.length],.int .i64 (n:Nat),.int .i64 0]∧H[b]? = some (.live 3 (l'.map D5)))∨(ap op f g k l=none∧r = .tup [.agg [.sl .nil 0 []],.int .i64 0,.int .i64 2]))) ?_ ?_
 ·refine acN Tryz.func105 rfl ?_
  show awp _ _ _ _ _ (EE _ [.cell 6 35,.tmp 7,.tmp 8] _)
  unfold dgA
  have g0:=CW h (ABlk.live 1 [[.sl m 3 (l.map D5)]])
  simp -implicitDefEqProofs only[vQ,BF,↓reduceIte,jA,enP,TQ,A1B,Q3]
  generalize hA:h++[ABlk.live 1 [[.sl m 3 (l.map D5)]]]=A at g0 ⊢
  have exA:ext h A:=⟨_,hA.symm⟩
  have lA:A.length=h.length+1:=by rw[← hA]; simp
  have g1:=CW A (ABlk.live 3 [i3 f g k])
  have g0:=BQ (x:=ABlk.live 3 [i3 f g k]) g0
  have exB:=exA.app [ABlk.live 3 [i3 f g k]]
  have lB:(A++[ABlk.live 3 [i3 f g k]]).length=h.length+2:=by simp; omega
  generalize A++[ABlk.live 3 [i3 f g k]]=B at g0 g1 exB lB ⊢
  have g2:=CW B (ABlk.live 1 [[.sl .nil 0 []]])
  have g1:=BQ (x:=ABlk.live 1 [[.sl .nil 0 []]]) g1
  have g0:=BQ (x:=ABlk.live 1 [[.sl .nil 0 []]]) g0
  have exC:=exB.app [ABlk.live 1 [[.sl .nil 0 []]]]
  have lC:(B++[ABlk.live 1 [[.sl .nil 0 []]]]).length=h.length+3:=by simp; omega
  generalize B++[ABlk.live 1 [[.sl .nil 0 []]]]=C at g0 g1 g2 exC lC ⊢
  rw[lA] at g1 ⊢
  rw[lB] at g2 ⊢
  have xl:=ldi g1
  simp -implicitDefEqProofs only[vQ,BF,↓reduceIte,jA,enP,Y3,Y2,Y0,JE g0,xl.1,xl.2.1,xl.2.2,AYM]
  refine(AKK G l m v [f,g,k] .full (by intro q hq; simp at hq; rcases hq with rfl | rfl | rfl <;> assumption) (by simp) C).use ?_
  simp -implicitDefEqProofs only[vQ,BF,↓reduceIte,jA,jT,enP,JE g0]
  refine ACalls.mono (ADE G l m v C) ?_
  rintro r D ⟨exD,bb,nb,ab,rfl,o1,o2,o3,sD⟩
  have g0:=FC exD g0
  have g1:=FC exD g1
  have g2:=FC exD g2
  have exCD:=exC.trans exD
  have lD:=exD.le
  simp -implicitDefEqProofs only[vQ,BF,U7,↓reduceIte,jA,enP,A10,A09]
  have sE:=sD.ext ((((ext.rfl' D).app [ABlk.map []])).app [ABlk.live 3 [[.ptr bb 0 0,.fn (.func fo) [] [],.mp D.length]]])
  have exE:ext D (D++[ABlk.map []]++[ABlk.live 3 [[.ptr bb 0 0,.fn (.func fo) [] [],.mp D.length]]]):=((ext.rfl' D).app _).app _
  have gE:=CW (D++[ABlk.map []]) (ABlk.live 3 [[.ptr bb 0 0,.fn (.func fo) [] [],.mp D.length]])
  have gK:=BQ (x:=ABlk.live 3 [[.ptr bb 0 0,.fn (.func fo) [] [],.mp D.length]]) (CW D (ABlk.map []))
  have lE:(D++[ABlk.map []]).length=D.length+1:=by simp
  rw[lE] at gE ⊢
  generalize D++[ABlk.map []]++[ABlk.live 3 [[.ptr bb 0 0,.fn (.func fo) [] [],.mp D.length]]]=E at sE exE gE gK ⊢
  have g0:=FC exE g0
  have g1:=FC exE g1
  have g2:=FC exE g2
  have hb:=CE sD.b
  have hn:=CE sD.n
  have ha:=CE sD.a
  have sO:OS (D.length+1) bb nb ab D.length fo op l false E:=⟨sE,gE,⟨[],gK,⟨fun e he=>(by cases he),fun _ e he=>(by cases he)⟩⟩,by omega,by omega⟩
  have lCE:h.length+3≤E.length:=by have:=exE.le; omega
  have lEE:=CE gE
  refine GL (.ones [0,1,2,4,5] (.alt 3 (.alt 6 (.alt 7 (.ones [8,9,10,11,12,13] .done) .non) .non) (.alt 6 (.alt 3 (.alt 7 (.ones [8,9,10,11,12,13] .done) .non) .non) .non))) (by kernel_rfl) ?_
  simp only[DN,JV,jR,jQ]
  have call : ∀ (K:AV→Hp→Prop),(∀ r H,AP (D.length+1) bb ab D.length fo op nb E false l (ap op f g k l) r H→K r H)→ACalls (En G) 155 [.ptr (D.length+1) 0 0,.agg (i3 f g k)] E K:=fun K hK =>
   ACalls.mono (ALG G hfo 21 nb l E ⟨f,g,k⟩ sO hf hg hk (by omega)) hK
  have fin : ∀ (r:AV) (H:Hp),AP (D.length+1) bb ab D.length fo op nb E false l (ap op f g k l) r H→∃ (n nb':Nat) (l':Dg) (full:Bool),r = .int .i64 (n:Nat)∧BS bb nb' ab l' full H∧h.length≤nb'∧DC Tryz.prog H 171 (.ptr (D.length+1) 0 0)=some (.ptr bb 0 0)∧ext h H∧(∃ x,H[h.length+2]? = some (ABlk.live 1 [[x]]))∧((full=false∧ap op f g k l=some (n,l'))∨(full=true∧ap op f g k l=none)):=by
   rintro r H ⟨nb',kd,hc⟩
   have eH:ext h H:=by
    obtain⟨y,hy⟩:=exCD.trans exE
    refine⟨H.drop h.length,?_⟩
    apply List.ext_getElem?
    intro i
    rcases jU i h.length with q | q
    ·rw[zO q,jP q]
     refine kd.keep i _ ?_ (by simp; omega) (by omega)
     rw[hy,zO q,jP q]
    ·rw[List.getElem?_append_right q,qZ]
     congr 1; omega
   have g2' : ∃ x,H[h.length+2]? = some (ABlk.live 1 [[x]]):=⟨_,kd.keep _ _ g2 (by simp; omega) (by omega)⟩
   have nn:h.length≤nb':=by rcases kd.nn with e | e <;> omega
   rcases hc with⟨_,n,l',e,hr,s'⟩ | ⟨e,⟨n,hr⟩,l',x',s'⟩
   ·exact⟨n,nb',l',false,hr,s'.s,nn,s'.ld0,eH,g2',.inl ⟨rfl,e⟩⟩
   ·rcases e with e | e
    ·cases e
    ·exact⟨n,nb',l',true,hr,s'.s,nn,s'.ld0,eH,g2',.inr ⟨rfl,e⟩⟩
  -- the end: what done returns is stored and returned
  have last : ∀ (n nb':Nat) (l':Dg) (full:Bool) (H H':Hp) (r:AV),BS bb nb' ab l' full H→h.length≤nb'→ext h H→(∃ x,H[h.length+2]? = some (ABlk.live 1 [[x]]))→((full=false∧ap op f g k l=some (n,l'))∨(full=true∧ap op f g k l=none))→ext H H' →
    r = (if full=true then AV.tup [.agg [.sl .nil 0 []],.int .i64 0,.int .i64 2] else .tup [.agg [.own nb' 0 l'.length],.int .i64 (n:Nat),.int .i64 0])→∃ (x:AV) (y z:Int),r = .tup [.agg [x],.int .i64 y,.int .i64 z]∧∃ H2,FM Tryz.prog H' 35 (.ptr (h.length+2) 0 0) (.agg [x])=some H2∧DC Tryz.prog H2 35 (.ptr (h.length+2) 0 0)=some (.agg [x])∧ext h H2 ∧
      ((∃ n l' b,ap op f g k l=some (n,l')∧h.length≤b∧AV.tup [.agg [x],.int .i64 y,.int .i64 z] = .tup [.agg [.own b 0 l'.length],.int .i64 (n:Nat),.int .i64 0]∧H2[b]? = some (.live 3 (l'.map D5)))∨(ap op f g k l=none∧AV.tup [.agg [x],.int .i64 y,.int .i64 z] = .tup [.agg [.sl .nil 0 []],.int .i64 0,.int .i64 2])):=by
   rintro n nb' l' full H H' r sH nn eH ⟨x,gx⟩ hor e' hr
   have gx':=FC e' gx
   have s':=sH.ext e'
   rcases hor with⟨rfl,e⟩ | ⟨rfl,e⟩
   ·rw[if_neg (by simp)] at hr
    refine⟨.own nb' 0 l'.length,n,0,hr,_,APY gx' _ _,JE (D7 gx'),(eH.trans e').set (by omega) _,.inl ⟨n,l',nb',e,nn,rfl,?_⟩⟩
    rw[jS (fun q=>by rw[q] at gx'; rw[s'.n] at gx'; cases gx')]
    exact s'.n
   ·rw[if_pos rfl] at hr
    exact⟨.sl .nil 0 [],0,2,hr,_,LY gx' _ _ _,JE (D7 gx'),(eH.trans e').set (by omega) _,.inr ⟨e,rfl⟩⟩
  simp -implicitDefEqProofs only[vQ,JQ,↓reduceIte,jA,jL,enP,P6,AF3 g1,sO.ld0]
  refine⟨?_,?_,trivial⟩
  ·refine⟨call _ ?_,trivial⟩
   intro r H hap
   obtain⟨n,nb',l',full,rfl,sH,nn,l0,eH,g2',hor⟩:=fin r H hap
   simp -implicitDefEqProofs only[vQ,↓reduceIte,jA]
   refine⟨ACalls.mono (Z5 G bb nb' ab l' full H sH n) ?_,trivial⟩
   rintro r H' ⟨e',hr⟩
   obtain⟨x,y,z,hr2,H2,hst,hld,eH2,hend⟩:=last n nb' l' full H H' r sH nn eH g2' hor e' hr
   subst hr2
   simp -implicitDefEqProofs only[vQ,jQ,jR,JQ,↓reduceIte,jA,jL,enP,jK,hst]
   rw[JJ _ _ _ _ _ _ _ _ _ _ _ (show _=AV.ptr (h.length+2) 0 0 by simp -implicitDefEqProofs only[AA,↓reduceIte,jA])]
   simp -implicitDefEqProofs only[AA,↓reduceIte,jA]
   exact⟨_,hld,eH2,hend⟩
  ·refine call _ ?_
   intro r H hap
   obtain⟨n,nb',l',full,rfl,sH,nn,l0,eH,g2',hor⟩:=fin r H hap
   simp -implicitDefEqProofs only[vQ,↓reduceIte,jA,l0]
   refine⟨⟨ACalls.mono (Z5 G bb nb' ab l' full H sH n) ?_,trivial⟩,trivial⟩
   rintro r H' ⟨e',hr⟩
   obtain⟨x,y,z,hr2,H2,hst,hld,eH2,hend⟩:=last n nb' l' full H H' r sH nn eH g2' hor e' hr
   subst hr2
   simp -implicitDefEqProofs only[vQ,jQ,jR,JQ,↓reduceIte,jA,jL,enP,jK,hst]
   rw[JJ _ _ _ _ _ _ _ _ _ _ _ (show _=AV.ptr (h.length+2) 0 0 by simp -implicitDefEqProofs only[AA,↓reduceIte,jA])]
   simp -implicitDefEqProofs only[AA,↓reduceIte,jA]
   exact⟨_,hld,eH2,hend⟩
 ·rintro r H ⟨he,hc⟩
  refine⟨he,?_⟩
  rcases hc with⟨n,l',b,e,hb,rfl,hH⟩ | ⟨e,rfl⟩
  ·rw[e]; exact ARD hb hH
  ·rw[e]; rfl
end
theorem QA (o:Option (Nat × Dg)) : ∃ (x:AV) (y z:Int),dgV o = .tup [.agg [x],.int .i64 y,.int .i64 z]∧x.leaf=true:=by
 cases o with
 | none=>exact⟨_,_,_,rfl,rfl⟩
 | some p=>exact⟨_,_,_,rfl,rfl⟩
theorem VP (o:Option (Nat × Dg))(n:Nat)(H:Hp):JS n H 4 (dgV o)=dgV o:=by
 cases o with
 | none=>rfl
 | some p=>rfl
section
variable (G:Nat→AV)
theorem A0Z (a b c:Bool)(h:Hp):PCall (En G) 188 [.bool a,.bool b,.bool c] h (.bool (ASM a b c)):=by
 refine ACalls.pure0 rfl ?_
 refine acN Tryz.func188 rfl ?_
 show awp _ _ _ _ _ (EE _ [.tmp 6] _)
 have hx : ∀ p q:Bool,IW Tryz.prog 4 .neq (.bool p) (.bool q)=some (.bool (!(p == q))):=fun p q=>by cases p <;> cases q <;> kernel_rfl
 cases a <;> cases b <;> cases c <;> (first | (simp -implicitDefEqProofs only[vQ,BF,↓reduceIte,jA,jT,enP]; exact⟨rfl,[],by simp⟩) | (simp -implicitDefEqProofs only[hx]; exact⟨rfl,[],by simp⟩))
theorem A04 (a b c:Bool)(h:Hp):PCall (En G) 106 [.bool a,.bool b,.bool c] h (.bool (ALC a b c)):=by
 refine ACalls.pure0 rfl ?_
 refine acN Tryz.func106 rfl ?_
 show awp _ _ _ _ _ (EE _ [.tmp 6] _)
 have hx : ∀ p q:Bool,IW Tryz.prog 4 .neq (.bool p) (.bool q)=some (.bool (!(p == q))):=fun p q=>by cases p <;> cases q <;> kernel_rfl
 cases a <;> cases b <;> cases c <;> (first | (simp -implicitDefEqProofs only[vQ,CP,BF,EN,↓reduceIte,jA,enP]; exact⟨rfl,[],by simp⟩) | (simp -implicitDefEqProofs only[hx]; exact⟨rfl,[],by simp⟩))
theorem A00 (a b c:Bool)(h:Hp):PCall (En G) 186 [.bool a,.bool b,.bool c] h (.bool (bOr a b c)):=by
 refine ACalls.pure0 rfl ?_
 refine acN Tryz.func186 rfl ?_
 show awp _ _ _ _ _ (EE _ [.tmp 6] _)
 have hx : ∀ p q:Bool,IW Tryz.prog 4 .neq (.bool p) (.bool q)=some (.bool (!(p == q))):=fun p q=>by cases p <;> cases q <;> kernel_rfl
 cases a <;> cases b <;> cases c <;> (first | (simp -implicitDefEqProofs only[vQ,CP,BF,EN,↓reduceIte,jA,enP]; exact⟨rfl,[],by simp⟩) | (simp -implicitDefEqProofs only[hx]; exact⟨rfl,[],by simp⟩))
theorem A0X (a b c:Bool)(h:Hp):PCall (En G) 223 [.bool a,.bool b,.bool c] h (.bool (ALB a b c)):=by
 refine ACalls.pure0 rfl ?_
 refine acN Tryz.func223 rfl ?_
 show awp _ _ _ _ _ (EE _ [.tmp 6] _)
 have hx : ∀ p q:Bool,IW Tryz.prog 4 .neq (.bool p) (.bool q)=some (.bool (!(p == q))):=fun p q=>by cases p <;> cases q <;> kernel_rfl
 cases a <;> cases b <;> cases c <;> (first | (simp -implicitDefEqProofs only[vQ,BF,↓reduceIte,jA,enP,bn4]; exact⟨rfl,[],by simp⟩) | (simp -implicitDefEqProofs only[hx]; exact⟨rfl,[],by simp⟩))
theorem A0Y (a b c:Bool)(h:Hp):PCall (En G) 189 [.bool a,.bool b,.bool c] h (.bool (bCh a b c)):=by
 refine ACalls.pure0 rfl ?_
 refine acN Tryz.func189 rfl ?_
 show awp _ _ _ _ _ (EE _ [.tmp 6] _)
 have hx : ∀ p q:Bool,IW Tryz.prog 4 .neq (.bool p) (.bool q)=some (.bool (!(p == q))):=fun p q=>by cases p <;> cases q <;> kernel_rfl
 cases a <;> cases b <;> cases c <;> (first | (simp -implicitDefEqProofs only[vQ,CP,UI,BF,EN,↓reduceIte,jA,jT,enP]; exact⟨rfl,[],by simp⟩) | (simp -implicitDefEqProofs only[hx]; exact⟨rfl,[],by simp⟩))
theorem AQH (l:Dg)(m:SM)(v:VD l)(f:Nat)(hf:f < l.length)(h:Hp):PCall (En G) 141 [dgA m l,.int .i64 (f:Nat)] h (dgV (OM f l)):=by
 refine UN 4 (VP _) ?_
 refine acN Tryz.func141 rfl ?_
 show awp _ _ _ _ _ (EE _ [.cell 4 35,.tmp 5,.tmp 6] _)
 unfold dgA
 have g0:=CW h (ABlk.live 1 [[.sl m 3 (l.map D5)]])
 simp -implicitDefEqProofs only[vQ,BF,↓reduceIte,jA,enP,TQ,Q3]
 generalize hA:h++[ABlk.live 1 [[.sl m 3 (l.map D5)]]]=A at g0 ⊢
 have exA:ext h A:=⟨_,hA.symm⟩
 have lA:A.length=h.length+1:=by rw[← hA]; simp
 have g1:=CW A (ABlk.live 1 [[.sl .nil 0 []]])
 have g0:=BQ (x:=ABlk.live 1 [[.sl .nil 0 []]]) g0
 simp -implicitDefEqProofs only[vQ,BF,↓reduceIte,jA,enP,JE g0,ADF]
 refine(PI G (A0Z G) l m v f f f hf hf hf _).use ?_
 obtain⟨x,y,z,e,hx⟩:=QA (OM f l)
 rw[show ap ASM f f f l=OM f l from rfl,e]
 simp -implicitDefEqProofs only[vQ,jQ,jR,BF,↓reduceIte,jA,enP,jK,AHN g1 hx,JI]
 rw[JJ _ _ _ _ _ _ _ _ _ _ _ (show _=AV.ptr A.length 0 0 by simp -implicitDefEqProofs only[AA,↓reduceIte,jA]),JE (CW A _)]
 simp -implicitDefEqProofs only[AA,↓reduceIte,jA]
 exact⟨_,rfl,rfl,exA.app _⟩
theorem AJG (l:Dg)(m:SM)(v:VD l)(f g:Nat)(hf:f < l.length)(hg:g < l.length)(h:Hp):PCall (En G) 46 [dgA m l,.int .i64 (f:Nat),.int .i64 (g:Nat)] h (dgV (KR f g l)):=by
 refine UN 4 (VP _) ?_
 refine acN Tryz.func46 rfl ?_
 show awp _ _ _ _ _ (EE _ [.cell 6 35,.tmp 7,.tmp 8] _)
 unfold dgA
 have g0:=CW h (ABlk.live 1 [[.sl m 3 (l.map D5)]])
 simp -implicitDefEqProofs only[vQ,BF,↓reduceIte,jA,enP,TQ,Q3]
 generalize hA:h++[ABlk.live 1 [[.sl m 3 (l.map D5)]]]=A at g0 ⊢
 have exA:ext h A:=⟨_,hA.symm⟩
 have lA:A.length=h.length+1:=by rw[← hA]; simp
 have g1:=CW A (ABlk.live 1 [[.sl .nil 0 []]])
 have g0:=BQ (x:=ABlk.live 1 [[.sl .nil 0 []]]) g0
 simp -implicitDefEqProofs only[vQ,BF,↓reduceIte,jA,enP,JE g0,ADF]
 refine(PI G (A04 G) l m v f g g hf hg hg _).use ?_
 obtain⟨x,y,z,e,hx⟩:=QA (KR f g l)
 rw[show ap ALC f g g l=KR f g l from rfl,e]
 simp -implicitDefEqProofs only[vQ,jQ,jR,BF,↓reduceIte,jA,enP,jK,AHN g1 hx,JI]
 rw[JJ _ _ _ _ _ _ _ _ _ _ _ (show _=AV.ptr A.length 0 0 by simp -implicitDefEqProofs only[AA,↓reduceIte,jA]),JE (CW A _)]
 simp -implicitDefEqProofs only[AA,↓reduceIte,jA]
 exact⟨_,rfl,rfl,exA.app _⟩
theorem AT5 (l:Dg)(m:SM)(v:VD l)(f g:Nat)(hf:f < l.length)(hg:g < l.length)(h:Hp):PCall (En G) 139 [dgA m l,.int .i64 (f:Nat),.int .i64 (g:Nat)] h (dgV (oOr f g l)):=by
 refine UN 4 (VP _) ?_
 refine acN Tryz.func139 rfl ?_
 show awp _ _ _ _ _ (EE _ [.cell 6 35,.tmp 7,.tmp 8] _)
 unfold dgA
 have g0:=CW h (ABlk.live 1 [[.sl m 3 (l.map D5)]])
 simp -implicitDefEqProofs only[vQ,BF,↓reduceIte,jA,enP,TQ,Q3]
 generalize hA:h++[ABlk.live 1 [[.sl m 3 (l.map D5)]]]=A at g0 ⊢
 have exA:ext h A:=⟨_,hA.symm⟩
 have lA:A.length=h.length+1:=by rw[← hA]; simp
 have g1:=CW A (ABlk.live 1 [[.sl .nil 0 []]])
 have g0:=BQ (x:=ABlk.live 1 [[.sl .nil 0 []]]) g0
 simp -implicitDefEqProofs only[vQ,BF,↓reduceIte,jA,enP,JE g0,ADF]
 refine(PI G (A00 G) l m v f g g hf hg hg _).use ?_
 obtain⟨x,y,z,e,hx⟩:=QA (oOr f g l)
 rw[show ap bOr f g g l=oOr f g l from rfl,e]
 simp -implicitDefEqProofs only[vQ,jQ,jR,BF,↓reduceIte,jA,enP,jK,AHN g1 hx,JI]
 rw[JJ _ _ _ _ _ _ _ _ _ _ _ (show _=AV.ptr A.length 0 0 by simp -implicitDefEqProofs only[AA,↓reduceIte,jA]),JE (CW A _)]
 simp -implicitDefEqProofs only[AA,↓reduceIte,jA]
 exact⟨_,rfl,rfl,exA.app _⟩
theorem APH (l:Dg)(m:SM)(v:VD l)(f g:Nat)(hf:f < l.length)(hg:g < l.length)(h:Hp):PCall (En G) 190 [dgA m l,.int .i64 (f:Nat),.int .i64 (g:Nat)] h (dgV (PN f g l)):=by
 refine UN 4 (VP _) ?_
 refine acN Tryz.func190 rfl ?_
 show awp _ _ _ _ _ (EE _ [.cell 6 35,.tmp 7,.tmp 8] _)
 unfold dgA
 have g0:=CW h (ABlk.live 1 [[.sl m 3 (l.map D5)]])
 simp -implicitDefEqProofs only[vQ,BF,↓reduceIte,jA,enP,TQ,Q3]
 generalize hA:h++[ABlk.live 1 [[.sl m 3 (l.map D5)]]]=A at g0 ⊢
 have exA:ext h A:=⟨_,hA.symm⟩
 have lA:A.length=h.length+1:=by rw[← hA]; simp
 have g1:=CW A (ABlk.live 1 [[.sl .nil 0 []]])
 have g0:=BQ (x:=ABlk.live 1 [[.sl .nil 0 []]]) g0
 simp -implicitDefEqProofs only[vQ,BF,↓reduceIte,jA,enP,JE g0,ADF]
 refine(PI G (A0X G) l m v f g g hf hg hg _).use ?_
 obtain⟨x,y,z,e,hx⟩:=QA (PN f g l)
 rw[show ap ALB f g g l=PN f g l from rfl,e]
 simp -implicitDefEqProofs only[vQ,jQ,jR,BF,↓reduceIte,jA,enP,jK,AHN g1 hx,JI]
 rw[JJ _ _ _ _ _ _ _ _ _ _ _ (show _=AV.ptr A.length 0 0 by simp -implicitDefEqProofs only[AA,↓reduceIte,jA]),JE (CW A _)]
 simp -implicitDefEqProofs only[AA,↓reduceIte,jA]
 exact⟨_,rfl,rfl,exA.app _⟩
theorem AI3 (l:Dg)(m:SM)(v:VD l)(f g k:Nat)(hf:f < l.length)(hg:g < l.length)(hk:k < l.length)(h:Hp):PCall (En G) 145 [dgA m l,.int .i64 (f:Nat),.int .i64 (g:Nat),.int .i64 (k:Nat)] h (dgV (oCh f g k l)):=by
 refine UN 4 (VP _) ?_
 refine acN Tryz.func145 rfl ?_
 show awp _ _ _ _ _ (EE _ [.cell 8 35,.tmp 9,.tmp 10] _)
 unfold dgA
 have g0:=CW h (ABlk.live 1 [[.sl m 3 (l.map D5)]])
 simp -implicitDefEqProofs only[vQ,BF,↓reduceIte,jA,enP,TQ,Q3]
 generalize hA:h++[ABlk.live 1 [[.sl m 3 (l.map D5)]]]=A at g0 ⊢
 have exA:ext h A:=⟨_,hA.symm⟩
 have lA:A.length=h.length+1:=by rw[← hA]; simp
 have g1:=CW A (ABlk.live 1 [[.sl .nil 0 []]])
 have g0:=BQ (x:=ABlk.live 1 [[.sl .nil 0 []]]) g0
 simp -implicitDefEqProofs only[vQ,BF,↓reduceIte,jA,enP,JE g0,ADF]
 refine(PI G (A0Y G) l m v f g k hf hg hk _).use ?_
 obtain⟨x,y,z,e,hx⟩:=QA (oCh f g k l)
 rw[show ap bCh f g k l=oCh f g k l from rfl,e]
 simp -implicitDefEqProofs only[vQ,jQ,jR,BF,↓reduceIte,jA,enP,jK,AHN g1 hx,JI]
 rw[JJ _ _ _ _ _ _ _ _ _ _ _ (show _=AV.ptr A.length 0 0 by simp -implicitDefEqProofs only[AA,↓reduceIte,jA]),JE (CW A _)]
 simp -implicitDefEqProofs only[AA,↓reduceIte,jA]
 exact⟨_,rfl,rfl,exA.app _⟩
theorem AOD (l:Dg)(m:SM)(v:VD l)(lv:Nat)(hlv:lv < 20)(h:Hp):PCall (En G) 187 [dgA m l,.int .i64 (lv:Nat),.int .i64 0,.int .i64 1] h (dgV (mk lv 0 1 l)):=by
 refine ACalls.pure 4 (R:=fun r H=>ext h H∧((∃ n l' b,mk lv 0 1 l=some (n,l')∧h.length≤b∧r = .tup [.agg [.own b 0 l'.length],.int .i64 (n:Nat),.int .i64 0]∧H[b]? = some (.live 3 (l'.map D5)))∨(mk lv 0 1 l=none∧r = .tup [.agg [.sl .nil 0 []],.int .i64 0,.int .i64 2]))) ?_ ?_
 ·refine acN Tryz.func187 rfl ?_
  show awp _ _ _ _ _ (EE _ [.cell 8 35,.tmp 9,.tmp 10] _)
  unfold dgA
  have g0:=CW h (ABlk.live 1 [[.sl m 3 (l.map D5)]])
  simp -implicitDefEqProofs only[vQ,BF,enP,TQ,Q3]
  generalize hA:h++[ABlk.live 1 [[.sl m 3 (l.map D5)]]]=A at g0 ⊢
  have exA:ext h A:=⟨_,hA.symm⟩
  have lA:A.length=h.length+1:=by rw[← hA]; simp
  have g1:=CW A (ABlk.live 1 [[.sl .nil 0 []]])
  have g0:=BQ (x:=ABlk.live 1 [[.sl .nil 0 []]]) g0
  have exC:=exA.app [ABlk.live 1 [[.sl .nil 0 []]]]
  have lC:(A++[ABlk.live 1 [[.sl .nil 0 []]]]).length=h.length+2:=by simp; omega
  generalize A++[ABlk.live 1 [[.sl .nil 0 []]]]=C at g0 g1 exC lC ⊢
  rw[lA] at g1 ⊢
  refine F7 (by kernel_rfl) ?_
  simp -implicitDefEqProofs only[vQ,N7,APG,↓reduceIte,jA,jL,enP,JE g0,AYN]
  refine⟨_,AKK G l m v [0,1] .full (by intro q hq; simp at hq; rcases hq with rfl | rfl <;> first | exact v.p0 | exact v.p1) (by simp) C,?_⟩
  simp -implicitDefEqProofs only[vQ,APG,CP,↓reduceIte,jA,jL,jT]
  refine⟨_,AKD G _ C,?_⟩
  have e1:(decide (((lv:Nat):Int)≥0) && decide (((lv:Nat):Int) < 20))=true:=by
   rw[jW,decide_eq_true_eq,decide_eq_true_eq]; omega
  rw[e1]
  have i0:KT 3 C (.sl m 3 (l.map D5)) (.int .i64 0)=some (.fptr 3 (l.map D5) 0 0):=EQ (n:=0) v.p0
  have i1:KT 3 C (.sl m 3 (l.map D5)) (.int .i64 1)=some (.fptr 3 (l.map D5) 1 0):=EQ (n:=1) v.p1
  have q0:DC Tryz.prog C 3 (.fptr 3 (l.map D5) 0 0)=some (.int .i64 20):=by
   rw[FH ag3 v.p0]
   have:l[0]'v.p0=nF:=by have:=v.z; rw[jP v.p0] at this; exact Option.some.inj this
   rw[this]; rfl
  have q1:DC Tryz.prog C 3 (.fptr 3 (l.map D5) 1 0)=some (.int .i64 20):=by
   rw[FH ag3 v.p1]
   have:l[1]'v.p1=nT:=by have:=v.o; rw[jP v.p1] at this; exact Option.some.inj this
   rw[this]; rfl
  have e2:decide (((lv:Nat):Int)≥20)=false:=by rw[decide_eq_false_iff_not]; omega
  simp -implicitDefEqProofs only[vQ,JY,CP,BF,AV2,AQN,↓reduceIte,jA,jL,jT,enP,V5,O0,OA,AF4 g0,i0,i1,q0,q1,show min (20:Int) 20=20 from rfl,e2]
  simp -implicitDefEqProofs only[vQ,BF,↓reduceIte,JE g0]
  refine ACalls.mono (ADE G l m v C) ?_
  rintro r D ⟨exD,bb,nb,ab,rfl,o1,o2,o3,sD⟩
  have g1:=FC exD g1
  have exCD:=exC.trans exD
  have lD:=exD.le
  simp -implicitDefEqProofs only[vQ,BF,↓reduceIte,jA]
  refine ACalls.mono (node_prog G bb nb ab l false D sD lv 0 1 (fun _=>⟨hlv,v.p0,v.p1,by rw[v.lv_low (Nat.zero_le 1)]; exact hlv,by rw[v.lv_low (jO 1)]; exact hlv⟩)) ?_
  rintro r H ⟨nb',kd,hc⟩
  have eH:ext h H:=by
   obtain⟨y,hy⟩:=exCD
   refine⟨H.drop h.length,?_⟩
   apply List.ext_getElem?
   intro i
   rcases jU i h.length with q | q
   ·rw[zO q,jP q]
    refine kd.keep i _ ?_ (by simp; omega) (by omega)
    rw[hy,zO q,jP q]
   ·rw[List.getElem?_append_right q,qZ]
    congr 1; omega
  have g1:H[h.length+1]? = some (ABlk.live 1 [[.sl .nil 0 []]]):=kd.keep _ _ g1 (by simp; omega) (by omega)
  have nn:h.length≤nb':=by rcases kd.nn with e | e <;> omega
  obtain⟨n,l',full,rfl,sH,hor⟩ : ∃ (n:Nat) (l':Dg) (full:Bool),r = .int .i64 (n:Nat)∧BS bb nb' ab l' full H∧((full=false∧mk lv 0 1 l=some (n,l'))∨(full=true∧mk lv 0 1 l=none)):=by
   rcases hc with⟨_,n,l',e,hr,s'⟩ | ⟨e,⟨n,hr⟩,l',x',s'⟩
   ·exact⟨n,l',false,hr,s',.inl ⟨rfl,e⟩⟩
   ·rcases e with e | e
    ·cases e
    ·exact⟨n,l',true,hr,s',.inr ⟨rfl,e⟩⟩
  simp -implicitDefEqProofs only[vQ,BF,↓reduceIte,jA]
  refine ACalls.mono (Z5 G bb nb' ab l' full H sH n) ?_
  rintro r H' ⟨e',hr⟩
  have g1:=FC e' g1
  have s':=sH.ext e'
  rcases hor with⟨rfl,e⟩ | ⟨rfl,e⟩
  ·rw[if_neg (by simp)] at hr
   subst hr
   simp -implicitDefEqProofs only[vQ,jQ,jR,BF,↓reduceIte,jA,enP,jK,APY g1]
   rw[JJ _ _ _ _ _ _ _ _ _ _ _ (show _=AV.ptr (h.length+1) 0 0 by simp -implicitDefEqProofs only[AA,↓reduceIte,jA])]
   simp -implicitDefEqProofs only[AA,↓reduceIte,jA]
   refine⟨_,JE (D7 g1),(eH.trans e').set (by omega) _,.inl ⟨n,l',nb',e,nn,rfl,?_⟩⟩
   rw[jS (fun q=>by rw[q] at g1; rw[s'.n] at g1; cases g1)]
   exact s'.n
  ·rw[if_pos rfl] at hr
   subst hr
   simp -implicitDefEqProofs only[vQ,jQ,jR,BF,↓reduceIte,jA,enP,jK,LY g1]
   rw[JJ _ _ _ _ _ _ _ _ _ _ _ (show _=AV.ptr (h.length+1) 0 0 by simp -implicitDefEqProofs only[AA,↓reduceIte,jA])]
   simp -implicitDefEqProofs only[AA,↓reduceIte,jA]
   exact⟨_,JE (D7 g1),(eH.trans e').set (by omega) _,.inr ⟨e,rfl⟩⟩
 ·rintro r H ⟨he,hc⟩
  refine⟨he,?_⟩
  rcases hc with⟨n,l',b,e,hb,rfl,hH⟩ | ⟨e,rfl⟩
  ·rw[e]; exact ARD hb hH
  ·rw[e]; rfl
theorem ASG (l:Dg)(m:SM)(v:VD l)(lv:Nat)(hlv:lv < 20)(h:Hp):PCall (En G) 140 [dgA m l,.int .i64 (lv:Nat)] h (dgV (mk lv 0 1 l)):=by
 refine UN 4 (VP _) ?_
 refine acN Tryz.func140 rfl ?_
 show awp _ _ _ _ _ (EE _ [.cell 4 35,.tmp 5,.tmp 6] _)
 unfold dgA
 have g0:=CW h (ABlk.live 1 [[.sl m 3 (l.map D5)]])
 simp -implicitDefEqProofs only[vQ,BF,↓reduceIte,jA,enP,TQ,Q3]
 generalize hA:h++[ABlk.live 1 [[.sl m 3 (l.map D5)]]]=A at g0 ⊢
 have exA:ext h A:=⟨_,hA.symm⟩
 have g1:=CW A (ABlk.live 1 [[.sl .nil 0 []]])
 have g0:=BQ (x:=ABlk.live 1 [[.sl .nil 0 []]]) g0
 simp -implicitDefEqProofs only[vQ,BF,↓reduceIte,jA,JE g0]
 refine(AOD G l m v lv hlv _).use ?_
 obtain⟨x,y,z,e,hx⟩:=QA (mk lv 0 1 l)
 rw[e]
 simp -implicitDefEqProofs only[vQ,jQ,jR,BF,↓reduceIte,jA,enP,jK,AHN g1 hx,JI]
 rw[JJ _ _ _ _ _ _ _ _ _ _ _ (show _=AV.ptr A.length 0 0 by simp -implicitDefEqProofs only[AA,↓reduceIte,jA]),JE (CW A _)]
 simp -implicitDefEqProofs only[AA,↓reduceIte,jA]
 exact⟨_,rfl,rfl,exA.app _⟩
end
structure PS (bb:Nat) (rest:List AV) (l:Dg) (H:Hp):Prop where
 b : ∃ m,H[bb]? = some (.live 8 [.sl m 3 (l.map D5) :: rest])
 v:VD l
 n:rest.length=7
structure Kb (bb:Nat) (H H':Hp):Prop where
 len:H.length≤H'.length
 keep : ∀ (k:Nat) (y:ABlk),H[k]? = some y→k≠bb→H'[k]? = some y
theorem Kb.rfl' (bb:Nat)(H:Hp):Kb bb H H:=⟨jO _,fun _ _ h _=>h⟩
theorem Kb.trans {bb:Nat}{A B C:Hp}(h1:Kb bb A B)(h2:Kb bb B C):Kb bb A C:=⟨Nat.le_trans h1.len h2.len,fun k y hk hn=>h2.keep k y (h1.keep k y hk hn) hn⟩
theorem Kb.app {bb:Nat}{A B:Hp}(h:Kb bb A B)(x:ABlk):Kb bb A (B++[x]):=⟨by simp; have:=h.len; omega,fun k y hk hn=>BQ (h.keep k y hk hn)⟩
theorem Kb.ofExt {bb:Nat}{A B:Hp}(h:Sm.ext A B):Kb bb A B:=⟨h.le,fun _ _ q _=>FC h q⟩
theorem Kb.ext {bb:Nat}{A B C:Hp}(h:Kb bb A B)(e:Sm.ext B C):Kb bb A C:=h.trans (Kb.ofExt e)
theorem Kb.setB {bb:Nat}{A B:Hp}(h:Kb bb A B)(x:ABlk):Kb bb A (B.set bb x):=⟨by rw[zV]; exact h.len,fun k y hk hn=>by rw[jS (Ne.symm hn)]; exact h.keep k y hk hn⟩
theorem Kb.setN {bb:Nat}{A B:Hp}(h:Kb bb A B){c:Nat}(hc:A.length≤c)(x:ABlk):Kb bb A (B.set c x):=⟨by rw[zV]; exact h.len,fun k y hk hn=>by
 rw[jS (fun e=>by have:=CE hk; omega)]; exact h.keep k y hk hn⟩
theorem PS.lt {bb:Nat}{rest:List AV}{l:Dg}{H:Hp}(s:PS bb rest l H):bb < H.length:=by obtain⟨m,h⟩:=s.b; exact CE h
theorem PS.ext {bb:Nat}{rest:List AV}{l:Dg}{H H':Hp}(s:PS bb rest l H)(e:Sm.ext H H'):PS bb rest l H':=by obtain⟨m,h⟩:=s.b; exact⟨⟨m,FC e h⟩,s.v,s.n⟩
theorem PS.app {bb:Nat}{rest:List AV}{l:Dg}{H:Hp}(s:PS bb rest l H)(x:ABlk):PS bb rest l (H++[x]):=s.ext ⟨[x],rfl⟩
theorem PS.set {bb:Nat}{rest:List AV}{l:Dg}{H:Hp}(s:PS bb rest l H){c:Nat}(hc:c≠bb)(x:ABlk):PS bb rest l (H.set c x):=by
 obtain⟨m,h⟩:=s.b
 exact⟨⟨m,by rw[jS hc]; exact h⟩,s.v,s.n⟩
theorem PS.ld {bb:Nat}{rest:List AV}{l:Dg}{H:Hp}(s:PS bb rest l H) : ∃ m,DC Tryz.prog H 35 (.ptr bb 0 0)=some (dgA m l):=by
 obtain⟨m,h⟩:=s.b
 exact⟨m,by rw[G5 AVR ANT h (row := .sl m 3 (l.map D5) :: rest) rfl (by simp)]; rfl⟩
def ARS:Value := .iface 107 (.agg #[.int .i64 2])
def X0 (bb:Nat)(base:Hp)(Bad:Prop):Value→Hp→Prop:=fun u H=>u=ARS∧Kb bb base H∧Bad
theorem pcX {G:Nat→AV}{X:Value→Hp→Prop}{f:FuncId}{args:List AV}{h:Hp}{r:AV}(hc:PCall (En G) f args h r):PCall ((En G).wx X) f args h r:=hc
def Ct (G:Nat→AV)(bb:Nat)(rest:List AV)(f:FuncId)(args:List AV)(H:Hp)(l:Dg){α:Type}(m:M α)(enc:α→AV):Prop :=
 ∀ (base:Hp) (Bad:Prop),Kb bb base H→(m l=none→Bad)→ACalls ((En G).wx (X0 bb base Bad)) f args H fun v H' => ∃ a l',m l=some (a,l')∧v=enc a∧PS bb rest l' H'∧Kb bb H H'
theorem Ct.use {G:Nat→AV}{bb:Nat}{rest:List AV}{f:FuncId}{args:List AV}{H:Hp}{l:Dg}{α β:Type}{m:M α}{k:α→M β}{enc:α→AV}{TOT:Option (β × Dg)}{base:Hp}{Bad:Prop}{K:AV→Hp→Prop}
  (c:Ct G bb rest f args H l m enc) (hS:(m.bnd k) l=TOT) (hb:TOT=none→Bad) (hk:Kb bb base H) (hc : ∀ a l' H',m l=some (a,l')→k a l'=TOT→PS bb rest l' H'→Kb bb H H'→K (enc a) H'):ACalls ((En G).wx (X0 bb base Bad)) f args H K :=
 ACalls.mono (c base Bad hk fun e=>hb (by rw[← hS,SV e])) fun v H' ⟨a,l',e,hv,s,k'⟩=>by rw[hv]; exact hc a l' H' e (by rw[← hS,OG e]) s k'
theorem JO {α:Type}(m:M α)(l:Dg):(m.bnd fun a=>ret a) l=m l:=by
 unfold M.bnd ret
 cases m l with
 | none=>rfl
 | some p=>rfl
def iA (n:Nat):AV := .int .i64 (n:Nat)
theorem AZD : ∃ fs,Tryz.prog.underlying 107=some (.struct fs):=by
 have h:(match Tryz.prog.underlying 107 with | some (.struct _)=>true | _=>false)=true:=by kernel_rfl
 cases hu:Tryz.prog.underlying 107 with
 | none=>rw[hu] at h; cases h
 | some d=>cases d <;> first | (rw[hu] at h; cases h; done) | exact⟨_,rfl⟩
theorem AZ3 (h:Hp)(n:Int):mkI Tryz.prog 107 (.agg [.int .i64 n]) h=some (.ifc 107 (.agg #[.int .i64 n]),h):=by obtain⟨fs,hu⟩:=AZD; exact AUF hu h _ _
theorem A12 (n:Int):J3 Tryz.prog 107 [(0,.int .i64 n)]=some (.agg [.int .i64 n]):=by kernel_rfl
section
variable (G:Nat→AV) {bb:Nat} {rest:List AV}
theorem AQZ {base:Hp}{Bad:Prop}{H:Hp}(hk:Kb bb base H)(hb:Bad)(K:AV→Hp→Prop):ACalls ((En G).wx (X0 bb base Bad)) 138 [.ptr bb 0 0,.agg [.sl .nil 0 []],.int .i64 0,.int .i64 2] H K:=by
 refine KG (H:=Hint.none) (enM G) Tryz.func138 rfl (by kernel_rfl) (by kernel_rfl) (jG (by kernel_rfl)) ?_
 show awp _ _ _ _ _ (EE _ [.tmp 8] _)
 have bx:MS H (.agg [.sl .nil 0 []])=some (.ptr H.length 0 0,H++[.live 1 [[.sl .nil 0 []]]]):=rfl
 simp -implicitDefEqProofs only[vQ,BF,wxX,ATD,AP8,AY3,↓reduceIte,jA,enP,jK,bx,show((2:Int) != 0)=true from rfl,A12,AZ3]
 exact⟨rfl,hk.app _,hb⟩
theorem AUQ {X:Value→Hp→Prop}{H:Hp}{l l':Dg}(s:PS bb rest l H)(v':VD l')(r:Nat):ACalls ((En G).wx X) 138 [.ptr bb 0 0,dgA .any l',.int .i64 (r:Nat),.int .i64 0] H fun v H'=>v=iA r∧PS bb rest l' H'∧Kb bb H H':=by
 refine acN Tryz.func138 rfl ?_
 show awp _ _ _ _ _ (EE _ [.tmp 8] _)
 unfold dgA
 obtain⟨m,hb⟩:=s.b
 have g0:=CW H (ABlk.live 1 [[.sl .any 3 (l'.map D5)]])
 have hb':=BQ (x:=ABlk.live 1 [[.sl .any 3 (l'.map D5)]]) hb
 have st:FM Tryz.prog (H++[ABlk.live 1 [[.sl .any 3 (l'.map D5)]]]) 35 (.ptr bb 0 0) (.agg [.sl .any 3 (l'.map D5)])=some ((H++[ABlk.live 1 [[.sl .any 3 (l'.map D5)]]]).set bb (.live 8 [.sl .any 3 (l'.map D5) :: rest])):=by
  rw[G6 (cs := [.sl .any 3 (l'.map D5)]) rfl ANT hb' rfl (by simp)]; rfl
 simp -implicitDefEqProofs only[vQ,BF,↓reduceIte,jA,enP,RU,jK,TQ,show((0:Int) != 0)=false from rfl,JE g0,st]
 exact⟨rfl,⟨⟨.any,D7 hb'⟩,v',s.n⟩,((Kb.rfl' bb H).app _).setB _⟩
theorem kept {H:Hp}{l:Dg}(s:PS bb rest l H){m:M Nat}(hm : ∀ r l',m l=some (r,l')→VD l'){base:Hp}{Bad:Prop}(hk:Kb bb base H)(hb:m l=none→Bad){K:AV→Hp→Prop}(hK : ∀ r l' H',m l=some (r,l')→PS bb rest l' H'→Kb bb H H'→K (iA r) H') :
  ∃ (x:AV) (y z:Int),dgV (m l) = .tup [.agg [x],.int .i64 y,.int .i64 z]∧ACalls ((En G).wx (X0 bb base Bad)) 138 [.ptr bb 0 0,.agg [x],.int .i64 y,.int .i64 z] H K:=by
 cases e:m l with
 | none=>exact⟨_,_,_,rfl,AQZ G hk (hb e) K⟩
 | some p =>
   obtain⟨r,l'⟩:=p
   refine⟨_,_,_,rfl,ACalls.mono (AUQ G s (hm r l' e) r) ?_⟩
   rintro v H' ⟨rfl,s',k'⟩
   exact hK r l' H' e s' k'
theorem KP {H:Hp}{l:Dg}(s:PS bb rest l H)(f:Nat)(hf:f < l.length):Ct G bb rest 77 [.ptr bb 0 0,iA f] H l (OM f) iA:=by
 intro base Bad hk hb
 refine acN Tryz.func77 rfl ?_
 show awp _ _ _ _ _ (EE _ [.tmp 4] _)
 obtain⟨m,hl⟩:=s.ld
 unfold iA
 simp -implicitDefEqProofs only[vQ,BF,↓reduceIte,jA,enP,RU,hl]
 refine(pcX (AQH G l m s.v f hf H)).use ?_
 obtain⟨x,y,z,e,hc⟩:=kept G s (m:=OM f) (fun r l' e=>(NH ASM s.v hf hf hf e).1) (K:=fun v H' => ∃ a l',OM f l=some (a,l')∧v=iA a∧PS bb rest l' H'∧Kb bb H H') hk hb fun r l' H' e s' k'=>⟨r,l',e,rfl,s',k'⟩
 rw[e]
 simp -implicitDefEqProofs only[vQ,jQ,jR,BF,↓reduceIte,jA]
 exact ACalls.mono hc fun v H' q=>by simp -implicitDefEqProofs only[vQ,BF,↓reduceIte]; exact q
theorem KE {H:Hp}{l:Dg}(s:PS bb rest l H)(f g:Nat)(hf:f < l.length)(hg:g < l.length):Ct G bb rest 144 [.ptr bb 0 0,iA f,iA g] H l (KR f g) iA:=by
 intro base Bad hk hb
 refine acN Tryz.func144 rfl ?_
 show awp _ _ _ _ _ (EE _ [.tmp 6] _)
 obtain⟨m,hl⟩:=s.ld
 unfold iA
 simp -implicitDefEqProofs only[vQ,BF,↓reduceIte,jA,enP,RU,hl]
 refine(pcX (AJG G l m s.v f g hf hg H)).use ?_
 obtain⟨x,y,z,e,hc⟩:=kept G s (m:=KR f g) (fun r l' e=>(NH ALC s.v hf hg hg e).1) (K:=fun v H' => ∃ a l',KR f g l=some (a,l')∧v=iA a∧PS bb rest l' H'∧Kb bb H H') hk hb fun r l' H' e s' k'=>⟨r,l',e,rfl,s',k'⟩
 rw[e]
 simp -implicitDefEqProofs only[vQ,jQ,jR,BF,↓reduceIte,jA]
 exact ACalls.mono hc fun v H' q=>by simp -implicitDefEqProofs only[vQ,BF,↓reduceIte]; exact q
theorem ND {H:Hp}{l:Dg}(s:PS bb rest l H)(f g:Nat)(hf:f < l.length)(hg:g < l.length):Ct G bb rest 73 [.ptr bb 0 0,iA f,iA g] H l (oOr f g) iA:=by
 intro base Bad hk hb
 refine acN Tryz.func73 rfl ?_
 show awp _ _ _ _ _ (EE _ [.tmp 6] _)
 obtain⟨m,hl⟩:=s.ld
 unfold iA
 simp -implicitDefEqProofs only[vQ,BF,↓reduceIte,jA,enP,RU,hl]
 refine(pcX (AT5 G l m s.v f g hf hg H)).use ?_
 obtain⟨x,y,z,e,hc⟩:=kept G s (m:=oOr f g) (fun r l' e=>(NH bOr s.v hf hg hg e).1) (K:=fun v H' => ∃ a l',oOr f g l=some (a,l')∧v=iA a∧PS bb rest l' H'∧Kb bb H H') hk hb fun r l' H' e s' k'=>⟨r,l',e,rfl,s',k'⟩
 rw[e]
 simp -implicitDefEqProofs only[vQ,jQ,jR,BF,↓reduceIte,jA]
 exact ACalls.mono hc fun v H' q=>by simp -implicitDefEqProofs only[vQ,BF,↓reduceIte]; exact q
theorem SS {H:Hp}{l:Dg}(s:PS bb rest l H)(f g:Nat)(hf:f < l.length)(hg:g < l.length):Ct G bb rest 147 [.ptr bb 0 0,iA f,iA g] H l (PN f g) iA:=by
 intro base Bad hk hb
 refine acN Tryz.func147 rfl ?_
 show awp _ _ _ _ _ (EE _ [.tmp 6] _)
 obtain⟨m,hl⟩:=s.ld
 unfold iA
 simp -implicitDefEqProofs only[vQ,BF,↓reduceIte,jA,enP,RU,hl]
 refine(pcX (APH G l m s.v f g hf hg H)).use ?_
 obtain⟨x,y,z,e,hc⟩:=kept G s (m:=PN f g) (fun r l' e=>(NH ALB s.v hf hg hg e).1) (K:=fun v H' => ∃ a l',PN f g l=some (a,l')∧v=iA a∧PS bb rest l' H'∧Kb bb H H') hk hb fun r l' H' e s' k'=>⟨r,l',e,rfl,s',k'⟩
 rw[e]
 simp -implicitDefEqProofs only[vQ,jQ,jR,BF,↓reduceIte,jA]
 exact ACalls.mono hc fun v H' q=>by simp -implicitDefEqProofs only[vQ,BF,↓reduceIte]; exact q
theorem ASJ {H:Hp}{l:Dg}(s:PS bb rest l H)(f g k:Nat)(hf:f < l.length)(hg:g < l.length)(hh:k < l.length):Ct G bb rest 84 [.ptr bb 0 0,iA f,iA g,iA k] H l (oCh f g k) iA:=by
 intro base Bad hk hb
 refine acN Tryz.func84 rfl ?_
 show awp _ _ _ _ _ (EE _ [.tmp 8] _)
 obtain⟨m,hl⟩:=s.ld
 unfold iA
 simp -implicitDefEqProofs only[vQ,BF,↓reduceIte,jA,enP,RU,hl]
 refine(pcX (AI3 G l m s.v f g k hf hg hh H)).use ?_
 obtain⟨x,y,z,e,hc⟩:=kept G s (m:=oCh f g k) (fun r l' e=>(NH bCh s.v hf hg hh e).1) (K:=fun v H' => ∃ a l',oCh f g k l=some (a,l')∧v=iA a∧PS bb rest l' H'∧Kb bb H H') hk hb fun r l' H' e s' k'=>⟨r,l',e,rfl,s',k'⟩
 rw[e]
 simp -implicitDefEqProofs only[vQ,jQ,jR,BF,↓reduceIte,jA]
 exact ACalls.mono hc fun v H' q=>by simp -implicitDefEqProofs only[vQ,BF,↓reduceIte]; exact q
end
def cW (w:Wrd):List AV:=w.map iA
def wA (w:Wrd):AV := .agg (cW w)
theorem MJ (w:Wrd):(cW w).length=w.length:=by unfold cW; simp
theorem AGT (w:Wrd):(cW w).all AV.leaf=true:=by
 unfold cW
 rw[List.all_map,zK]
 intro x _; rfl
theorem AR7 {w:Wrd}{i:Nat}(h:i < w.length):(cW w)[i]? = some (iA (w.getD i 0)):=by
 unfold cW
 rw[List.getElem?_map,jP h,zB,jP h]; rfl
theorem ag74:JK Tryz.prog 74=some true:=by kernel_rfl
theorem sz74:szO Tryz.prog 74=some 16:=by kernel_rfl
theorem AXC:Tryz.prog.underlying 74=some (.array 16 3):=by kernel_rfl
theorem SY (h:Hp):JP Tryz.prog h 74=some (.ptr h.length 0 0,h++[.live 16 [cW (jJ 16 0)]]):=JF (row:=cW (jJ 16 0)) (by kernel_rfl)
theorem P7 (h:Hp){w:Wrd}(hw:w.length=16):MS h (wA w)=some (.ptr h.length 0 0,h++[.live 16 [cW w]]):=by
 have:=ABO (h:=h) (AGT w)
 rw[MJ,hw] at this
 exact this
theorem PZ {H:Hp}{b:Nat}{kk:IntKind}{i:Nat}(hi:i < 16):F9 Tryz.prog H 74 (.ptr b 0 0) (.int kk (i:Nat))=some (.ptr b 0 i):=by
 unfold F9
 simp only[AXC,sz3]
 rw[if_pos ⟨by omega,by omega⟩]
 simp
theorem G7 {H:Hp}{b:Nat}{w:Wrd}(hb:H[b]? = some (.live 16 [cW w]))(hw:w.length=16):DC Tryz.prog H 74 (.ptr b 0 0)=some (wA w):=by
 rw[G5 ag74 sz74 hb (row:=cW w) rfl (by rw[MJ,hw]; exact jO 16),List.drop_zero,zF (by rw[MJ,hw]; exact jO 16)]; rfl
theorem ldW {H:Hp}{b i:Nat}{w:Wrd}(hb:H[b]? = some (.live 16 [cW w]))(hi:i < w.length):DC Tryz.prog H 3 (.ptr b 0 i)=some (iA (w.getD i 0)):=by
 rw[DF ag3 hb (row:=cW w) rfl,AR7 hi]
theorem AXL (w:Wrd)(i n:Nat):(cW w).set i (iA n)=cW (w.set i n):=by unfold cW; rw[List.map_set]
theorem ATP {row:List AV}{i:Nat}(v:AV)(hi:i < row.length):splice row i [v]=row.set i v:=by
 unfold splice
 rw[List.set_eq_take_append_cons_drop,if_pos hi]
 simp
theorem stW {H:Hp}{b i n:Nat}{w:Wrd}(hb:H[b]? = some (.live 16 [cW w]))(hi:i < w.length):FM Tryz.prog H 3 (.ptr b 0 i) (iA n)=some (H.set b (.live 16 [cW (w.set i n)])):=by
 have hl:i < (cW w).length:=by rw[MJ]; exact hi
 rw[G6 (cs := [iA n]) rfl sz3 hb (row:=cW w) rfl (by simp; omega),ATP _ hl,AXL]; rfl
theorem UE {H:Hp}{b:Nat}{w w':Wrd}(hb:H[b]? = some (.live 16 [cW w]))(hw:w.length=16)(hw':w'.length=16):FM Tryz.prog H 74 (.ptr b 0 0) (wA w')=some (H.set b (.live 16 [cW w'])):=by
 rw[show wA w' = .agg (cW w') from rfl,G6 (cs:=cW w') (TV (AGT w')) (by rw[MJ,hw']; exact sz74) hb (row:=cW w) rfl (by rw[MJ,MJ]; omega)]
 unfold splice
 rw[MJ,hw',qH,zL (by rw[MJ]; omega)]
 simp
theorem A0G {w:Wrd}{kk:IntKind}{i:Nat}(hi:i < 16)(hw:w.length=16):OJ Tryz.prog 74 (wA w) (.int kk (i:Nat))=some (iA (w.getD i 0)):=by
 unfold OJ wA
 simp only[AXC,sz3]
 have h3:JK Tryz.prog 3=some false:=ag3
 have:=AR7 (w:=w) (i:=i) (by omega)
 simp [h3,this]
 omega
theorem A3X (n:Nat):J3 Tryz.prog 74 [(0,.int .i64 (n:Nat))]=some (wA (sgl n)):=by kernel_rfl
theorem YN {d:List Nat}{k n:Nat}(hd:d.length=k)(hk:k < 16):(d++jJ (16 - k) 0).set k n=(d++[n])++jJ (16 - (k+1)) 0:=by
 subst hd
 rw[List.set_append_right _ _ (jO _),Nat.sub_self,show 16 - d.length=(16 - (d.length+1))+1 by omega,List.replicate_succ]
 simp
theorem YP {d:List Nat}{k:Nat}(hd:d.length=k)(hk:k≤16):(d++jJ (16 - k) 0).length=16:=by simp; omega
theorem grow_end {d:List Nat}(_:d.length=16):d++jJ (16 - 16) 0=d:=by simp
theorem and1 (x:Nat)(hx:x < 4294967296):IW Tryz.prog 3 .and (.int .i64 (x:Nat)) (.int .i64 1)=some (.int .i64 ((x % 2:Nat):Int)):=by
 rw[AVI]
 congr 2
 have e:(BitVec.ofInt IntKind.i64.bits (x:Int) &&& BitVec.ofInt IntKind.i64.bits 1).toNat=x % 2:=by
  rw[BitVec.toNat_and]
  have h1:(BitVec.ofInt IntKind.i64.bits (x:Int)).toNat=x:=by
   show(BitVec.ofInt 64 (x:Int)).toNat=x
   rw[BitVec.toNat_ofInt]
   omega
  have h2:(BitVec.ofInt IntKind.i64.bits 1).toNat=1:=rfl
  rw[h1,h2,Nat.and_one_is_mod]
 rw[e]
 exact UK (by omega)
theorem AP0 (x k:Nat)(hk:k < 16):IW Tryz.prog 3 .shr (.int .i64 (x:Nat)) (.int .i64 (k:Nat))=some (.int .i64 ((x / 2 ^ k:Nat):Int)):=by
 rw[AVH _ _ _ _ _ _ (by omega)]
 congr 2
 have:min (k:Int).toNat IntKind.i64.bits=k:=by show min (k:Int).toNat 64=k; omega
 rw[this,Int.fdiv_eq_ediv_of_nonneg _ (by have:(0:Int) < 2 ^ k:=Int.pow_pos (by decide); omega),Int.natCast_ediv,Int.natCast_pow]; rfl
section
variable (G:Nat→AV) {bb:Nat} {rest:List AV}
theorem AWJ (w:Wrd)(n:Nat)(H:Hp):JS n H 2 (wA w)=wA w:=by
 unfold wA cW
 show AV.agg _=_
 congr 1
 rw[List.map_map]
 rfl
theorem NQ (n:Nat)(hn:n≤65535)(h:Hp):PCall (En G) 74 [.int .i64 (n:Nat)] h (wA (cst n)):=by
 refine UN 2 (AWJ _) ?_
 refine acN Tryz.func74 rfl ?_
 show awp _ _ _ _ _ (EE _ [.cell 2 74] _)
 simp -implicitDefEqProofs only[vQ,BF,enP,SY]
 generalize hA:h++[ABlk.live 16 [cW (jJ 16 0)]]=A
 have gA:A[h.length]? = some (.live 16 [cW (jJ 16 0)]):=by rw[← hA]; exact CW _ _
 have exA:ext h A:=⟨_,hA.symm⟩
 have lA:A.length=h.length+1:=by rw[← hA]; simp
 refine GZ 0 (fun F H=>F 2 = .ptr h.length 0 0∧F 3 = .ptr A.length 0 0∧H=A++[.live 16 [cW (cst n)]]) (fun _ _=>False) ?_ ?_ (fun _ _ q=>q.elim)
 ·refine DY (fun m F H => ∃ k,m+k=16∧F 0 = .int .i64 (n:Nat)∧F 2 = .ptr h.length 0 0∧F 3 = .ptr A.length 0 0∧F 5 = .int .i64 (k:Nat)∧H=A++[.live 16 [cW ((cst n).take k++jJ (16 - k) 0)]]) 16 ⟨0,rfl,by simp -implicitDefEqProofs only[vQ,↓reduceIte,jA],by simp -implicitDefEqProofs only[AA,↓reduceIte,jA],by simp -implicitDefEqProofs only[AA,↓reduceIte,jA],by simp -implicitDefEqProofs only[AA,↓reduceIte]; rfl,rfl⟩ ?_
  rintro m F H ⟨k,hk,f0,f2,f3,f5,rfl⟩
  simp -implicitDefEqProofs only[vQ,BF,↓reduceIte,enP,f5]
  refine CX (fun hc => ?_) (fun hc => ?_)
  ·have hk':k < 16:=by have:=hc; simp at this; omega
   have hd:((cst n).take k).length=k:=by rw[zN,IZ]; omega
   have hb:=CW A (ABlk.live 16 [cW ((cst n).take k++jJ (16 - k) 0)])
   have hst:=stW (n:=n / 2 ^ k % 2) hb (i:=k) (by rw[YP hd (by omega)]; exact hk')
   have hlt:n / 2 ^ k < 4294967296:=Nat.lt_of_le_of_lt (Nat.div_le_self _ _) (by omega)
   have hck:(cst n).take k++[n / 2 ^ k % 2]=(cst n).take (k+1):=by
    rw[qE (by rw[IZ]; exact hk')]
    congr 2
    unfold cst; simp
   rw[YN hd hk',JI,hck] at hst
   simp -implicitDefEqProofs only[vQ,BF,↓reduceIte,jA,enP,jK,f0,f3,f5,AP0 _ _ hk',and1 _ hlt,PZ hk',show FM Tryz.prog (A++[ABlk.live 16 [cW ((cst n).take k++jJ (16 - k) 0)]]) 3 (.ptr A.length 0 k) (.int .i64 ((n / 2 ^ k % 2:Nat):Int))=_ from hst,wrap_succ (show k < 9223372036854775807 by omega)]
   exact⟨m - 1,by omega,k+1,by omega,by trivial,by trivial,by trivial,by trivial,by trivial⟩
  ·have hk':k=16:=by have:=hc; simp at this; omega
   subst hk'
   simp -implicitDefEqProofs only[vQ,↓reduceIte,jA]
   refine⟨f2,f3,?_⟩
   rw[zF (by rw[IZ]; exact jO 16),grow_end (IZ n)]
 ·rintro F H ⟨f2,f3,rfl⟩
  have gT:=CW A (ABlk.live 16 [cW (cst n)])
  simp -implicitDefEqProofs only[vQ,BF,↓reduceIte,jA,enP,jK,f2,f3,G7 gT (IZ n),UE (BQ gA) (by simp) (IZ n)]
  rw[IL _ _ _ _ _ _ _ _ _ (show _=AV.ptr h.length 0 0 by first | exact f2 | (simp -implicitDefEqProofs only[f2])),G7 (D7 (BQ gA)) (IZ n)]
  exact⟨_,rfl,rfl,(exA.app _).set (jO _) _⟩
theorem JL (t:Nat)(h:Hp):PCall (En G) 76 [iA t] h (wA (sgl t)):=by
 refine UN 2 (AWJ _) ?_
 refine acN Tryz.func76 rfl ?_
 show awp _ _ _ _ _ (EE _ [.cell 2 74] _)
 have gT:=CW h (ABlk.live 16 [cW (jJ 16 0)])
 unfold iA
 simp -implicitDefEqProofs only[vQ,BF,↓reduceIte,jA,enP,jK,SY,A3X,UE gT (by simp) (JW t),JI]
 rw[IL _ _ _ _ _ _ _ _ _ (show _=AV.ptr h.length 0 0 by simp -implicitDefEqProofs only[AA,↓reduceIte,jA]),G7 (CW h _) (JW t)]
 exact⟨_,rfl,rfl,(ext.rfl' h).app _⟩
end
theorem apX {op:B3}{l l':Dg}{f g h r:Nat}(v:VD l)(hf:f < l.length)(hg:g < l.length)(hh:h < l.length)(e:ap op f g h l=some (r,l')):Xt l l'∧r < l'.length:=by
 obtain⟨_,b,_,d,_⟩:=NH op v hf hg hh e
 exact⟨b,d⟩
theorem LOk.drop {l:Dg}{xs:List Nat}(h:LOk l xs)(n:Nat):LOk l (xs.drop n):=fun g hg=>h g (List.mem_of_mem_drop hg)
theorem LOk.at {l:Dg}{xs:List Nat}(h:LOk l xs){n:Nat}(hn:n < xs.length):xs[n] < l.length:=h _ (List.getElem_mem hn)
theorem getD_at {xs:List Nat}{n:Nat}(hn:n < xs.length):xs.getD n 0=xs[n]:=by rw[zB,jP hn]; rfl
theorem TY (k:Nat):decide (((k:Nat):Int) < 16)=decide (k < 16):=by rw[decide_eq_decide]; omega
theorem GM {A:Hp}{x:ABlk}{n:Nat}(e:A.length=n):(A++[x])[n]? = some x:=by rw[← e]; exact CW _ _
abbrev isW (H:Hp)(b:Nat)(w:Wrd):Prop:=H[b]? = some (.live 16 [cW w])
theorem ANU (x:Nat)(xs:List Nat)(y:Nat)(ys:List Nat)(c:Nat):RP (x :: xs) (y :: ys) c=(PN x y).bnd fun h=>(PN h c).bnd fun o=>if xs = [] then ret [o] else
 (KR x y).bnd fun g=>(KR h c).bnd fun k=>(oOr g k).bnd fun c'=>(RP xs ys c').bnd fun r=>ret (o :: r):=rfl
theorem APV {x y:Wrd}(hx:x.length=16)(hy:y.length=16)(d:Wrd)(c k:Nat)(hk:k < 16):((RP (x.drop k) (y.drop k) c).bnd fun r=>ret (d++r)) =
  (PN (x.getD k 0) (y.getD k 0)).bnd fun h=>(PN h c).bnd fun o=>if k=15 then ret (d++[o]) else (KR (x.getD k 0) (y.getD k 0)).bnd fun g=>(KR h c).bnd fun q=>(oOr g q).bnd fun c'=>(RP (x.drop (k+1)) (y.drop (k+1)) c').bnd fun r=>ret ((d++[o])++r):=by
 rw[zX (show k < x.length by omega),zX (show k < y.length by omega),getD_at (by omega),getD_at (by omega)]
 rw[ANU,II]
 congr 1
 funext h
 rw[II]
 congr 1
 funext o
 by_cases h15:k=15
 ·rw[if_pos h15,if_pos (zL (by omega))]
  rfl
 ·rw[if_neg h15,if_neg (by rw[List.drop_eq_nil_iff]; omega),II]
  congr 1
  funext g
  rw[II]
  congr 1
  funext q
  rw[II]
  congr 1
  funext c'
  rw[II]
  refine congrArg (M.bnd _) (funext fun r => ?_)
  show ret (d++(o :: r))=ret ((d++[o])++r)
  rw[zJ]; rfl
section
variable (G:Nat→AV) {bb:Nat} {rest:List AV}
theorem NJ {H:Hp}{l:Dg}(s:PS bb rest l H)(w:Wrd)(hw:w.length=16)(ow:LOk l w):Ct G bb rest 40 [.ptr bb 0 0,wA w] H l (trL w 0) iA:=by
 intro base Bad hk hb
 generalize hT:trL w 0 l=TOT at hb
 refine acN Tryz.func40 rfl ?_
 show awp _ _ _ _ _ (EE _ [.tmp 4] _)
 have g3:=CW H (ABlk.live 16 [cW w])
 simp -implicitDefEqProofs only[vQ,BF,↓reduceIte,jA,enP,P7 _ hw,G7 g3 hw]
 refine GZ 0 (fun F H' => ∃ t l',TOT=some (t,l')∧PS bb rest l' H'∧Kb bb H H'∧F 5=iA t) (fun _ _=>False) ?_ ?_ (fun _ _ q=>q.elim)
 ·refine DY (fun m F H' => ∃ k t l',m+k=16∧trL (w.drop k) t l'=TOT∧LOk l' w∧t < l'.length∧PS bb rest l' H'∧Kb bb H H'∧F 0 = .ptr bb 0 0∧F 5=iA t∧F 8=wA w∧F 9 = .int .i64 (k:Nat)) 16
   ⟨0,0,l,rfl,hT,ow,s.v.p0,s.app _,(Kb.rfl' _ _).app _,by simp -implicitDefEqProofs only[vQ,↓reduceIte,jA],by simp -implicitDefEqProofs only[AA,↓reduceIte,jA]; rfl,by simp -implicitDefEqProofs only[AA,↓reduceIte,jA],by simp -implicitDefEqProofs only[AA,↓reduceIte]; rfl⟩ ?_
  rintro m F H' ⟨k,t,l',hm,hS,ow',ht,s',k',f0,f5,f8,f9⟩
  simp -implicitDefEqProofs only[vQ,BF,↓reduceIte,enP,f9,TY]
  refine CX (fun hc => ?_) (fun hc => ?_)
  ·have hk':k < 16:=by simpa using hc
   rw[zX (by omega)] at hS
   have hwk:w.getD k 0 < l'.length:=by rw[getD_at (by omega)]; exact ow'.at (by omega)
   rw[← getD_at (show k < w.length by omega)] at hS
   simp -implicitDefEqProofs only[vQ,BF,MM,↓reduceIte,jA,enP,f0,f5,f8,f9,A0G hk' hw]
   refine(ND G s' t (w.getD k 0) ht hwk).use (k:=fun u=>trL (w.drop (k+1)) u) hS hb (hk.trans k') ?_
   intro a l1 H1 e hS1 s1 k1
   obtain⟨x1,a1⟩:=apX s'.v ht hwk hwk e
   simp -implicitDefEqProofs only[vQ,BF,↓reduceIte,jA,enP,f9,wrap_succ (show k < 9223372036854775807 by omega)]
   exact⟨m - 1,by omega,k+1,a,l1,by omega,hS1,ow'.go x1,a1,s1,k'.trans k1,by trivial,by trivial,by trivial,by trivial⟩
  ·have hk':k=16:=by have:=hc; simp at this; omega
   subst hk'
   rw[zL (by omega)] at hS
   simp -implicitDefEqProofs only[vQ,↓reduceIte,jA]
   exact⟨t,l',hS.symm,s',k',f5⟩
 ·rintro F H' ⟨t,l',e,s',k',f5⟩
  simp -implicitDefEqProofs only[vQ,BF,↓reduceIte,f5]
  exact⟨t,l',e,rfl,s',k'⟩
set_option maxHeartbeats 2000000 in
theorem XY {H:Hp}{l:Dg}(s:PS bb rest l H)(x y:Wrd)(c:Nat)(hx:x.length=16)(hy:y.length=16)(ox:LOk l x)(oy:LOk l y)(oc:c < l.length):Ct G bb rest 142 [.ptr bb 0 0,wA x,wA y,iA c] H l (RP x y c) wA:=by
 intro base Bad hk hb
 generalize hT:RP x y c l=TOT at hb
 refine acN Tryz.func142 rfl ?_
 show awp _ _ _ _ _ (EE _ [.cell 8 74] _)
 simp -implicitDefEqProofs only[vQ,BF,↓reduceIte,jA,enP,P7 _ hx,P7 _ hy,SY]
 generalize hX:H++[ABlk.live 16 [cW x]]++[ABlk.live 16 [cW y]]++[ABlk.live 16 [cW (jJ 16 0)]]++[ABlk.live 16 [cW (jJ 16 0)]]=X
 have hxe:ext H X:=by rw[← hX]; exact((((ext.rfl' H).app _).app _).app _).app _
 have q5:isW X H.length x:=by rw[← hX]; exact BQ (BQ (BQ (CW _ _)))
 have q6:isW X (H.length+1) y:=by rw[← hX]; exact BQ (BQ (GM (by simp)))
 have q8:isW X (H.length+2) (jJ 16 0):=by rw[← hX]; exact BQ (GM (by simp))
 have q9:isW X (H.length+3) (jJ 16 0):=by rw[← hX]; exact GM (by simp)
 have sX:=s.ext hxe
 have kX:=Kb.ofExt (bb:=bb) hxe
 have e1:(H++[ABlk.live 16 [cW x]]).length=H.length+1:=by simp
 have e2:(H++[ABlk.live 16 [cW x]]++[ABlk.live 16 [cW y]]).length=H.length+2:=by simp
 have e3:(H++[ABlk.live 16 [cW x]]++[ABlk.live 16 [cW y]]++[ABlk.live 16 [cW (jJ 16 0)]]).length=H.length+3:=by simp
 rw[e1,e2,e3]
 have sl:=s.lt
 refine GZ 0 (fun F H' => ∃ d l',d.length=16∧TOT=some (d,l')∧PS bb rest l' H'∧Kb bb H H'∧isW H' (H.length+3) d∧(∃ z:Wrd,z.length=16∧isW H' (H.length+2) z)∧F 8 = .ptr (H.length+2) 0 0∧F 9 = .ptr (H.length+3) 0 0) (fun _ _=>False) ?_ ?_ (fun _ _ q=>q.elim)
 ·refine DY (fun m F H' => ∃ k d c l',m+k=16∧d.length=k∧((RP (x.drop k) (y.drop k) c).bnd fun r=>ret (d++r)) l'=TOT∧LOk l' x∧LOk l' y∧c < l'.length∧PS bb rest l' H'∧Kb bb H H'∧isW H' H.length x∧isW H' (H.length+1) y∧(∃ z:Wrd,z.length=16∧isW H' (H.length+2) z)∧isW H' (H.length+3) (d++jJ (16 - k) 0) ∧
   F 0 = .ptr bb 0 0∧F 3=iA c∧F 5 = .ptr H.length 0 0∧F 6 = .ptr (H.length+1) 0 0∧F 8 = .ptr (H.length+2) 0 0∧F 9 = .ptr (H.length+3) 0 0∧F 14 = .int .i64 (k:Nat)) 16
   ⟨0,[],c,l,rfl,rfl,by rw[← hT]; exact JO _ _,ox,oy,oc,sX,kX,q5,q6,⟨_,by simp,q8⟩,q9,by simp -implicitDefEqProofs only[vQ,↓reduceIte,jA],by simp -implicitDefEqProofs only[vQ,↓reduceIte,jA],by simp -implicitDefEqProofs only[AA,↓reduceIte,jA],by simp -implicitDefEqProofs only[AA,↓reduceIte,jA],by simp -implicitDefEqProofs only[AA,↓reduceIte,jA],by simp -implicitDefEqProofs only[AA,↓reduceIte,jA],by simp -implicitDefEqProofs only[AA,↓reduceIte]; rfl⟩ ?_
  clear q5 q6 q8 q9 sX kX
  rintro m F H' ⟨k,d,c,l',hm,hd,hS,ox',oy',oc',s',k',q5,q6,⟨z,hz,q8⟩,q9,f0,f3,f5,f6,f8,f9,f14⟩
  simp -implicitDefEqProofs only[vQ,BF,↓reduceIte,enP,f14,TY]
  refine CX (fun hc => ?_) (fun hc => ?_)
  ·have hk':k < 16:=by simpa using hc
   rw[APV hx hy d c k hk'] at hS
   have hxk:x.getD k 0 < l'.length:=by rw[getD_at (by omega)]; exact ox'.at (by omega)
   have hyk:y.getD k 0 < l'.length:=by rw[getD_at (by omega)]; exact oy'.at (by omega)
   simp -implicitDefEqProofs only[vQ,BF,↓reduceIte,jA,f14]
   refine VU 7 _ _ (by kernel_rfl) rfl rfl rfl rfl ?_
   simp only[List.take_succ_cons,qH]
   simp -implicitDefEqProofs only[vQ,BF,↓reduceIte,jA,jL,enP,f0,f5,f6,PZ hk',ldW q5 (show k < x.length by omega),ldW q6 (show k < y.length by omega)]
   refine(SS G s' _ _ hxk hyk).use hS hb (hk.trans k') ?_
   intro h l1 H1 eh hS1 s1 k1
   obtain⟨x1,h1⟩:=apX s'.v hxk hyk hyk eh
   have b1:=s'.lt
   have q5:=k1.keep _ _ q5 (by omega)
   have q6:=k1.keep _ _ q6 (by omega)
   have q8:=k1.keep _ _ q8 (by omega)
   have q9:=k1.keep _ _ q9 (by omega)
   simp -implicitDefEqProofs only[vQ,↓reduceIte,jA,f0,f3]
   refine(SS G s1 _ _ h1 (x1.lt oc')).use hS1 hb (hk.trans (k'.trans k1)) ?_
   intro o l2 H2 eo hS2 s2 k2
   obtain⟨x2,o2⟩:=apX s1.v h1 (x1.lt oc') (x1.lt oc') eo
   have q5:=k2.keep _ _ q5 (by omega)
   have q6:=k2.keep _ _ q6 (by omega)
   have q8:=k2.keep _ _ q8 (by omega)
   have q9:=k2.keep _ _ q9 (by omega)
   have hst:=stW (n:=o) q9 (i:=k) (by rw[YP hd (by omega)]; exact hk')
   rw[YN hd hk'] at hst
   have hlt9:=CE q9
   have s3:=s2.set (c:=H.length+3) (by omega) (.live 16 [cW ((d++[o])++jJ (16 - (k+1)) 0)])
   have k3:=((k'.trans k1).trans k2).setN (c:=H.length+3) (by omega) (.live 16 [cW ((d++[o])++jJ (16 - (k+1)) 0)])
   have r5:isW (H2.set (H.length+3) (.live 16 [cW ((d++[o])++jJ (16 - (k+1)) 0)])) H.length x:=by unfold isW; rw[jS (by omega)]; exact q5
   have r6:isW (H2.set (H.length+3) (.live 16 [cW ((d++[o])++jJ (16 - (k+1)) 0)])) (H.length+1) y:=by unfold isW; rw[jS (by omega)]; exact q6
   have r8:isW (H2.set (H.length+3) (.live 16 [cW ((d++[o])++jJ (16 - (k+1)) 0)])) (H.length+2) z:=by unfold isW; rw[jS (by omega)]; exact q8
   have r9:isW (H2.set (H.length+3) (.live 16 [cW ((d++[o])++jJ (16 - (k+1)) 0)])) (H.length+3) ((d++[o])++jJ (16 - (k+1)) 0):=D7 q9
   have xx:=x1.trans x2
   have e15:decide (((k:Nat):Int) < 15)=decide (k < 15):=by rw[decide_eq_decide]; omega
   simp -implicitDefEqProofs only[vQ,BF,↓reduceIte,jA,enP,jK,f9,PZ hk',hst,f14,e15]
   generalize H2.set (H.length+3) (.live 16 [cW ((d++[o])++jJ (16 - (k+1)) 0)])=H3 at s3 k3 r5 r6 r8 r9 ⊢
   refine CX (fun h15 => ?_) (fun h15 => ?_)
   ·have h15:k < 15:=by simpa using h15
    rw[if_neg (by omega)] at hS2
    have hx2:=xx.lt hxk
    have hy2:=xx.lt hyk
    simp -implicitDefEqProofs only[BC]
    refine VU 7 _ _ (by kernel_rfl) rfl rfl rfl rfl ?_
    simp only[List.take_succ_cons,qH]
    simp -implicitDefEqProofs only[vQ,BF,↓reduceIte,jA,jL,enP,f0,f5,f6,PZ hk',ldW r5 (show k < x.length by omega),ldW r6 (show k < y.length by omega)]
    refine(KE G s3 _ _ hx2 hy2).use hS2 hb (hk.trans k3) ?_
    intro g l4 H4 eg hS4 s4 k4
    obtain⟨x4,g4⟩:=apX s3.v hx2 hy2 hy2 eg
    have b3:=s3.lt
    have l3:=k3.len
    have r5:=k4.keep _ _ r5 (by omega)
    have r6:=k4.keep _ _ r6 (by omega)
    have r8:=k4.keep _ _ r8 (by omega)
    have r9:=k4.keep _ _ r9 (by omega)
    simp -implicitDefEqProofs only[vQ,↓reduceIte,jA,f0,f3]
    refine(KE G s4 _ _ ((x2.trans x4).lt h1) ((xx.trans x4).lt oc')).use hS4 hb (hk.trans (k3.trans k4)) ?_
    intro q l5 H5 eq hS5 s5 k5
    obtain⟨x5,q5'⟩:=apX s4.v ((x2.trans x4).lt h1) ((xx.trans x4).lt oc') ((xx.trans x4).lt oc') eq
    have r5:=k5.keep _ _ r5 (by omega)
    have r6:=k5.keep _ _ r6 (by omega)
    have r8:=k5.keep _ _ r8 (by omega)
    have r9:=k5.keep _ _ r9 (by omega)
    simp -implicitDefEqProofs only[vQ,BF,↓reduceIte,jA,f0]
    refine(ND G s5 _ _ (x5.lt g4) q5').use hS5 hb (hk.trans ((k3.trans k4).trans k5)) ?_
    intro c' l6 H6 ec hS6 s6 k6
    obtain⟨x6,c6⟩:=apX s5.v (x5.lt g4) q5' q5' ec
    have r5:=k6.keep _ _ r5 (by omega)
    have r6:=k6.keep _ _ r6 (by omega)
    have r8:=k6.keep _ _ r8 (by omega)
    have r9:=k6.keep _ _ r9 (by omega)
    have xz:=xx.trans (x4.trans (x5.trans x6))
    simp -implicitDefEqProofs only[vQ,BF,↓reduceIte,jA,enP,f14,wrap_succ (show k < 9223372036854775807 by omega)]
    exact⟨m - 1,by omega,k+1,d++[o],c',l6,by omega,by simp [hd],hS6,ox'.go xz,oy'.go xz,c6,s6,((k3.trans k4).trans k5).trans k6,r5,r6,⟨z,hz,r8⟩,r9,by trivial,by trivial,by trivial,by trivial,by trivial,by trivial,by trivial⟩
   ·have h15:k=15:=by have:=h15; simp at this; omega
    rw[if_pos h15] at hS2
    simp -implicitDefEqProofs only[vQ,BF,↓reduceIte,jA,enP,f14,wrap_succ (show k < 9223372036854775807 by omega)]
    refine⟨m - 1,by omega,k+1,d++[o],c,l2,by omega,by simp [hd],?_,ox'.go xx,oy'.go xx,xx.lt oc',s3,k3,r5,r6,⟨z,hz,r8⟩,r9,by trivial,by trivial,by trivial,by trivial,by trivial,by trivial,by trivial⟩
    rw[← hS2,zL (show x.length≤k+1 by omega)]
    show ret ((d++[o])++[]) l2=_
    rw[jD]
  ·have hk':k=16:=by have:=hc; simp at this; omega
   subst hk'
   rw[zL (show x.length≤16 by omega)] at hS
   have hS:ret (d++[]) l'=TOT:=hS
   rw[jD] at hS
   rw[grow_end hd] at q9
   simp -implicitDefEqProofs only[vQ,↓reduceIte,jA]
   exact⟨d,l',hd,hS.symm,s',k',q9,⟨z,hz,q8⟩,f8,f9⟩
 ·rintro F H' ⟨d,l',hd,e,s',k',q9,⟨z,hz,q8⟩,f8,f9⟩
  simp -implicitDefEqProofs only[vQ,BF,↓reduceIte,jA,enP,jK,f8,f9,G7 q9 hd,UE q8 hz hd]
  rw[IL _ _ _ _ _ _ _ _ _ (show _=AV.ptr (H.length+2) 0 0 by first | exact f8 | (simp -implicitDefEqProofs only[f8])),G7 (D7 q8) hd]
  exact⟨_,rfl,d,l',e,rfl,s'.set (by omega) _,k'.setN (by omega) _⟩
end
theorem set_mid {d r:List Nat}{k a n:Nat}(hd:d.length=k):(d++a :: r).set k n=(d++[n])++r:=by
 subst hd
 rw[List.set_append_right _ _ (jO _),Nat.sub_self]
 simp
theorem SK {d r:List Nat}{k a:Nat}(hd:d.length=k):(d++a :: r).getD k 0=a:=by
 subst hd
 rw[zB,List.getElem?_append_right (jO _),Nat.sub_self]; rfl
theorem LM {xs:List Nat}{k:Nat}(hk:k < xs.length):xs.drop k=xs.getD k 0 :: xs.drop (k+1):=by rw[zX hk,getD_at hk]
theorem LOk.getD {l:Dg}{xs:List Nat}(h:LOk l xs){k:Nat}(hk:k < xs.length):xs.getD k 0 < l.length:=by rw[getD_at hk]; exact h.at hk
section
variable (G:Nat→AV) {bb:Nat} {rest:List AV}
theorem XE {H:Hp}{l:Dg}(s:PS bb rest l H)(w:Wrd)(hw:w.length=16)(ow:LOk l w):Ct G bb rest 78 [.ptr bb 0 0,wA w] H l (cmpL w) wA:=by
 intro base Bad hk hb
 generalize hT:cmpL w l=TOT at hb
 refine acN Tryz.func78 rfl ?_
 show awp _ _ _ _ _ (EE _ [.cell 4 74] _)
 simp -implicitDefEqProofs only[vQ,BF,enP,P7 _ hw,SY]
 generalize hX:H++[ABlk.live 16 [cW w]]++[ABlk.live 16 [cW (jJ 16 0)]]=X
 have hxe:ext H X:=by rw[← hX]; exact((ext.rfl' H).app _).app _
 have q3:isW X H.length w:=by rw[← hX]; exact BQ (CW _ _)
 have q4:isW X (H.length+1) (jJ 16 0):=by rw[← hX]; exact GM (by simp)
 have sX:=s.ext hxe
 have kX:=Kb.ofExt (bb:=bb) hxe
 have e1:(H++[ABlk.live 16 [cW w]]).length=H.length+1:=by simp
 rw[e1]
 have sl:=s.lt
 refine GZ 0 (fun F H' => ∃ d l',d.length=16∧TOT=some (d,l')∧PS bb rest l' H'∧Kb bb H H'∧isW H' H.length d∧(∃ z:Wrd,z.length=16∧isW H' (H.length+1) z)∧F 3 = .ptr H.length 0 0∧F 4 = .ptr (H.length+1) 0 0) (fun _ _=>False) ?_ ?_ (fun _ _ q=>q.elim)
 ·refine DY (fun m F H' => ∃ k d l',m+k=16∧d.length=k∧((cmpL (w.drop k)).bnd fun r=>ret (d++r)) l'=TOT∧LOk l' w∧PS bb rest l' H'∧Kb bb H H'∧isW H' H.length (d++w.drop k)∧(∃ z:Wrd,z.length=16∧isW H' (H.length+1) z) ∧
   F 0 = .ptr bb 0 0∧F 3 = .ptr H.length 0 0∧F 4 = .ptr (H.length+1) 0 0∧F 6 = .int .i64 (k:Nat)) 16
   ⟨0,[],l,rfl,rfl,by rw[← hT]; exact JO _ _,ow,sX,kX,q3,⟨_,by simp,q4⟩,by simp -implicitDefEqProofs only[vQ,↓reduceIte,jA],by simp -implicitDefEqProofs only[AA,↓reduceIte,jA],by simp -implicitDefEqProofs only[AA,↓reduceIte,jA],by simp -implicitDefEqProofs only[AA,↓reduceIte]; rfl⟩ ?_
  clear q3 q4 sX kX
  rintro m F H' ⟨k,d,l',hm,hd,hS,ow',s',k',q3,⟨z,hz,q4⟩,f0,f3,f4,f6⟩
  simp -implicitDefEqProofs only[vQ,BF,↓reduceIte,enP,f6,TY]
  refine CX (fun hc => ?_) (fun hc => ?_)
  ·have hk':k < 16:=by simpa using hc
   have hwl:k < w.length:=by omega
   have hwk:=ow'.getD hwl
   rw[LM hwl] at hS q3
   have hS:((OM (w.getD k 0)).bnd fun g=>(cmpL (w.drop (k+1))).bnd fun r=>ret ((d++[g])++r)) l'=TOT:=by
    rw[← hS]
    show _=(((OM (w.getD k 0)).bnd fun g=>(cmpL (w.drop (k+1))).bnd fun s=>ret (g :: s)).bnd fun r=>ret (d++r)) l'
    rw[II]
    refine congrFun (congrArg (M.bnd _) (funext fun g => ?_)) l'
    rw[II]
    refine congrArg (M.bnd _) (funext fun r => ?_)
    show ret ((d++[g])++r)=ret (d++(g :: r))
    rw[zJ]; rfl
   have hlq:k < (d++w.getD k 0 :: w.drop (k+1)).length:=by simp [hd]
   have hld:=ldW q3 (i:=k) hlq
   rw[SK hd] at hld
   simp -implicitDefEqProofs only[vQ,BF,↓reduceIte,jA,enP,f0,f3,f6,PZ hk',hld]
   refine(KP G s' _ hwk).use hS hb (hk.trans k') ?_
   intro g l1 H1 eg hS1 s1 k1
   obtain⟨x1,g1⟩:=apX s'.v hwk hwk hwk eg
   have b1:=s'.lt
   have q3:=k1.keep _ _ q3 (by omega)
   have q4:=k1.keep _ _ q4 (by omega)
   have hst:=stW (n:=g) q3 (i:=k) hlq
   rw[set_mid hd] at hst
   simp -implicitDefEqProofs only[vQ,BF,↓reduceIte,jA,enP,jK,f3,f6,PZ hk',hst,wrap_succ (show k < 9223372036854775807 by omega)]
   refine⟨m - 1,by omega,k+1,d++[g],l1,by omega,by simp [hd],hS1,ow'.go x1,s1.set (by omega) _,(k'.trans k1).setN (by omega) _,D7 q3,⟨z,hz,?_⟩,by trivial,by trivial,by trivial,by trivial⟩
   unfold isW; rw[jS (by omega)]; exact q4
  ·have hk':k=16:=by have:=hc; simp at this; omega
   subst hk'
   rw[zL (show w.length≤16 by omega)] at hS q3
   have hS:ret (d++[]) l'=TOT:=hS
   rw[jD] at hS q3
   simp -implicitDefEqProofs only[vQ,↓reduceIte,jA]
   exact⟨d,l',hd,hS.symm,s',k',q3,⟨z,hz,q4⟩,f3,f4⟩
 ·rintro F H' ⟨d,l',hd,e,s',k',q3,⟨z,hz,q4⟩,f3,f4⟩
  simp -implicitDefEqProofs only[vQ,BF,↓reduceIte,jA,enP,jK,f3,f4,G7 q3 hd,UE q4 hz hd]
  rw[IL _ _ _ _ _ _ _ _ _ (show _=AV.ptr (H.length+1) 0 0 by first | exact f4 | (simp -implicitDefEqProofs only[f4])),G7 (D7 q4) hd]
  exact⟨_,rfl,d,l',e,rfl,s'.set (by omega) _,k'.setN (by omega) _⟩
theorem AIV {H:Hp}{l:Dg}(s:PS bb rest l H)(x y:Wrd)(hx:x.length=16)(hy:y.length=16)(ox:LOk l x)(oy:LOk l y):Ct G bb rest 79 [.ptr bb 0 0,wA x,wA y] H l (AIW x y) wA:=by
 intro base Bad hk hb
 generalize hT:AIW x y l=TOT at hb
 have hS:((cmpL y).bnd fun n=>RP x n 1) l=TOT:=hT
 refine KG (H:=Hint.none) (enM G) Tryz.func79 rfl (by kernel_rfl) (by kernel_rfl) (jG (by kernel_rfl)) ?_
 show awp _ _ _ _ _ (EE _ [.cell 6 74] _)
 simp -implicitDefEqProofs only[vQ,BF,↓reduceIte,jA,enP,P7 _ hx,P7 _ hy,SY]
 generalize hX:H++[ABlk.live 16 [cW x]]++[ABlk.live 16 [cW y]]++[ABlk.live 16 [cW (jJ 16 0)]]=X
 have hxe:ext H X:=by rw[← hX]; exact(((ext.rfl' H).app _).app _).app _
 have q4:isW X H.length x:=by rw[← hX]; exact BQ (BQ (CW _ _))
 have q5:isW X (H.length+1) y:=by rw[← hX]; exact BQ (GM (by simp))
 have q6:isW X (H.length+2) (jJ 16 0):=by rw[← hX]; exact GM (by simp)
 have sX:=s.ext hxe
 have kX:=Kb.ofExt (bb:=bb) hxe
 have e1:(H++[ABlk.live 16 [cW x]]).length=H.length+1:=by simp
 have e2:(H++[ABlk.live 16 [cW x]]++[ABlk.live 16 [cW y]]).length=H.length+2:=by simp
 rw[e1,e2]
 have sl:=s.lt
 refine GL (.ones [0,2,3] (.alt 1 (.alt 4 (.alt 5 (.alt 6 .done .non) .non) .non) (.alt 4 (.alt 1 (.alt 5 (.alt 6 .done .non) .non) .non) .non))) (by kernel_rfl) ?_
 simp only[DN,JV,jR,jQ]
 simp -implicitDefEqProofs only[vQ,↓reduceIte,jA,jL,enP,jK,G7 q4 hx,G7 q5 hy]
 have tail : ∀ (n:Wrd) (l1:Dg) (H1:Hp),cmpL y l=some (n,l1)→RP x n 1 l1=TOT→PS bb rest l1 H1→Kb bb X H1→∀ K:AV→Hp→Prop,(∀ (r:Wrd) (H2:Hp),r.length=16→isW H2 (H.length+2) (jJ 16 0)→(∃ a l',TOT=some (a,l')∧wA r=wA a∧PS bb rest l' (H2.set (H.length+2) (.live 16 [cW r]))∧Kb bb H (H2.set (H.length+2) (.live 16 [cW r])))→K (wA r) H2) →
   ACalls ((En G).wx (X0 bb base Bad)) 142 [.ptr bb 0 0,wA x,wA n,iA 1] H1 K:=by
  intro n l1 H1 en hS1 s1 k1 K hK
  obtain⟨v1,x1,_,⟨n1,n2⟩,_⟩:=ABN y l s.v oy n l1 en
  have b1:=sX.lt
  have q6:=k1.keep _ _ q6 (by omega)
  have hS1:((RP x n 1).bnd fun a=>ret a) l1=TOT:=by rw[JO]; exact hS1
  refine(XY G s1 x n 1 hx (by omega) (ox.go x1) n2 v1.p1).use hS1 hb (hk.trans (kX.trans k1)) ?_
  intro r l2 H2 er hS2 s2 k2
  obtain⟨v2,x2,_,⟨r1,r2⟩,_⟩:=PY x n l1 1 v1 (by omega) (ox.go x1) n2 v1.p1 r l2 er
  have b2:=s1.lt
  have l1':=k1.len
  exact hK r H2 (by omega) (k2.keep _ _ q6 (by omega)) ⟨r,l2,hS2.symm,rfl,s2.set (by omega) _,((kX.trans k1).trans k2).setN (by omega) _⟩
 refine⟨⟨(XE G sX y hy oy).use hS hb (hk.trans kX) ?_,trivial⟩,(XE G sX y hy oy).use hS hb (hk.trans kX) ?_,trivial⟩
 ·intro n l1 H1 en hS1 s1 k1
  simp -implicitDefEqProofs only[vQ,↓reduceIte,jA]
  refine⟨tail n l1 H1 en hS1 s1 k1 _ ?_,trivial⟩
  intro r H2 hr q6 hend
  simp -implicitDefEqProofs only[vQ,↓reduceIte,jA,UE q6 (by simp) hr]
  refine⟨?_,trivial⟩
  rw[IL _ _ _ _ _ _ _ _ _ (show _=AV.ptr (H.length+2) 0 0 by simp -implicitDefEqProofs only[AA,↓reduceIte,jA]),G7 (D7 q6) hr]
  exact⟨_,rfl,hend⟩
 ·intro n l1 H1 en hS1 s1 k1
  have q4:=k1.keep _ _ q4 (by have:=sX.lt; omega)
  simp -implicitDefEqProofs only[vQ,↓reduceIte,jA,G7 q4 hx]
  refine⟨⟨tail n l1 H1 en hS1 s1 k1 _ ?_,trivial⟩,trivial⟩
  intro r H2 hr q6 hend
  simp -implicitDefEqProofs only[vQ,↓reduceIte,jA,UE q6 (by simp) hr]
  refine⟨?_,trivial⟩
  rw[IL _ _ _ _ _ _ _ _ _ (show _=AV.ptr (H.length+2) 0 0 by simp -implicitDefEqProofs only[AA,↓reduceIte,jA]),G7 (D7 q6) hr]
  exact⟨_,rfl,hend⟩
theorem U2 {H:Hp}{l:Dg}(s:PS bb rest l H)(x y:Wrd)(hx:x.length=16)(hy:y.length=16)(ox:LOk l x)(oy:LOk l y):Ct G bb rest 191 [.ptr bb 0 0,wA x,wA y] H l (eqL x y 1) iA:=by
 intro base Bad hk hb
 generalize hT:eqL x y 1 l=TOT at hb
 refine acN Tryz.func191 rfl ?_
 show awp _ _ _ _ _ (EE _ [.tmp 6] _)
 simp -implicitDefEqProofs only[vQ,BF,↓reduceIte,jA,enP,P7 _ hx,P7 _ hy]
 generalize hX:H++[ABlk.live 16 [cW x]]++[ABlk.live 16 [cW y]]=X
 have hxe:ext H X:=by rw[← hX]; exact((ext.rfl' H).app _).app _
 have q4:isW X H.length x:=by rw[← hX]; exact BQ (CW _ _)
 have q5:isW X (H.length+1) y:=by rw[← hX]; exact GM (by simp)
 have sX:=s.ext hxe
 have kX:=Kb.ofExt (bb:=bb) hxe
 have e1:(H++[ABlk.live 16 [cW x]]).length=H.length+1:=by simp
 rw[e1]
 have sl:=s.lt
 refine GZ 0 (fun F H' => ∃ t l',TOT=some (t,l')∧PS bb rest l' H'∧Kb bb H H'∧F 7=iA t) (fun _ _=>False) ?_ ?_ (fun _ _ q=>q.elim)
 ·refine DY (fun m F H' => ∃ k t l',m+k=16∧eqL (x.drop k) (y.drop k) t l'=TOT∧LOk l' x∧LOk l' y∧t < l'.length∧PS bb rest l' H'∧Kb bb H H'∧isW H' H.length x∧isW H' (H.length+1) y ∧
   F 0 = .ptr bb 0 0∧F 4 = .ptr H.length 0 0∧F 5 = .ptr (H.length+1) 0 0∧F 7=iA t∧F 9 = .int .i64 (k:Nat)) 16
   ⟨0,1,l,rfl,hT,ox,oy,s.v.p1,sX,kX,q4,q5,by simp -implicitDefEqProofs only[vQ,↓reduceIte,jA],by simp -implicitDefEqProofs only[AA,↓reduceIte,jA],by simp -implicitDefEqProofs only[AA,↓reduceIte,jA],by simp -implicitDefEqProofs only[AA,↓reduceIte,jA]; rfl,by simp -implicitDefEqProofs only[AA,↓reduceIte]; rfl⟩ ?_
  clear q4 q5 sX kX
  rintro m F H' ⟨k,t,l',hm,hS,ox',oy',ht,s',k',q4,q5,f0,f4,f5,f7,f9⟩
  simp -implicitDefEqProofs only[vQ,BF,↓reduceIte,enP,f9,TY]
  refine CX (fun hc => ?_) (fun hc => ?_)
  ·have hk':k < 16:=by simpa using hc
   have hxl:k < x.length:=by omega
   have hyl:k < y.length:=by omega
   have hxk:=ox'.getD hxl
   have hyk:=oy'.getD hyl
   rw[LM hxl,LM hyl] at hS
   have hS:((PN (x.getD k 0) (y.getD k 0)).bnd fun a=>(OM a).bnd fun b=>(KR t b).bnd fun u=>eqL (x.drop (k+1)) (y.drop (k+1)) u) l'=TOT:=hS
   simp -implicitDefEqProofs only[vQ,BF,↓reduceIte,jA,f9]
   refine GL (.ones [0,1,2,3,4,5,6,7,8,9] (.alt 10 (.alt 11 (.alt 12 (.ones [13] .done) .non) .non) .non)) (by kernel_rfl) ?_
   simp only[DN,JV,jR,jQ]
   simp -implicitDefEqProofs only[vQ,BF,↓reduceIte,jA,jL,enP,f0,f4,f5,f7,PZ hk',ldW q4 hxl,ldW q5 hyl]
   refine⟨(SS G s' _ _ hxk hyk).use hS hb (hk.trans k') ?_,trivial⟩
   intro a l1 H1 ea hS1 s1 k1
   obtain⟨x1,a1⟩:=apX s'.v hxk hyk hyk ea
   simp -implicitDefEqProofs only[vQ,↓reduceIte,jA]
   refine⟨(KP G s1 _ a1).use hS1 hb (hk.trans (k'.trans k1)) ?_,trivial⟩
   intro b l2 H2 eb hS2 s2 k2
   obtain⟨x2,b2⟩:=apX s1.v a1 a1 a1 eb
   simp -implicitDefEqProofs only[vQ,↓reduceIte,jA]
   refine⟨(KE G s2 _ _ ((x1.trans x2).lt ht) b2).use hS2 hb (hk.trans ((k'.trans k1).trans k2)) ?_,trivial⟩
   intro u l3 H3 eu hS3 s3 k3
   obtain⟨x3,u3⟩:=apX s2.v ((x1.trans x2).lt ht) b2 b2 eu
   have xx:=x1.trans (x2.trans x3)
   have kk:=(k1.trans k2).trans k3
   have b1:=s'.lt
   simp -implicitDefEqProofs only[vQ,BF,↓reduceIte,jA,f9,wrap_succ (show k < 9223372036854775807 by omega)]
   exact⟨m - 1,by omega,k+1,u,l3,by omega,hS3,ox'.go xx,oy'.go xx,u3,s3,k'.trans kk,kk.keep _ _ q4 (by omega),kk.keep _ _ q5 (by omega),by trivial,by trivial,by trivial,by trivial,by trivial⟩
  ·have hk':k=16:=by have:=hc; simp at this; omega
   subst hk'
   rw[zL (show x.length≤16 by omega)] at hS
   simp -implicitDefEqProofs only[vQ,↓reduceIte,jA]
   exact⟨t,l',hS.symm,s',k',f7⟩
 ·rintro F H' ⟨t,l',e,s',k',f7⟩
  simp -implicitDefEqProofs only[vQ,BF,↓reduceIte,f7]
  exact⟨t,l',e,rfl,s',k'⟩
set_option maxHeartbeats 1000000 in
theorem VN {H:Hp}{l:Dg}(s:PS bb rest l H)(x y:Wrd)(hx:x.length=16)(hy:y.length=16)(ox:LOk l x)(oy:LOk l y):Ct G bb rest 143 [.ptr bb 0 0,wA x,wA y] H l (lsL x y 0) iA:=by
 intro base Bad hk hb
 generalize hT:lsL x y 0 l=TOT at hb
 refine KG (H:=Hint.none) (enM G) Tryz.func143 rfl (by kernel_rfl) (by kernel_rfl) (jG (by kernel_rfl)) ?_
 show awp _ _ _ _ _ (EE _ [.tmp 6] _)
 simp -implicitDefEqProofs only[vQ,BF,↓reduceIte,jA,enP,P7 _ hx,P7 _ hy]
 generalize hX:H++[ABlk.live 16 [cW x]]++[ABlk.live 16 [cW y]]=X
 have hxe:ext H X:=by rw[← hX]; exact((ext.rfl' H).app _).app _
 have q4:isW X H.length x:=by rw[← hX]; exact BQ (CW _ _)
 have q5:isW X (H.length+1) y:=by rw[← hX]; exact GM (by simp)
 have sX:=s.ext hxe
 have kX:=Kb.ofExt (bb:=bb) hxe
 have e1:(H++[ABlk.live 16 [cW x]]).length=H.length+1:=by simp
 rw[e1]
 have sl:=s.lt
 refine GZ 0 (fun F H' => ∃ t l',TOT=some (t,l')∧PS bb rest l' H'∧Kb bb H H'∧F 7=iA t) (fun _ _=>False) ?_ ?_ (fun _ _ q=>q.elim)
 ·refine DY (fun m F H' => ∃ k t l',m+k=16∧lsL (x.drop k) (y.drop k) t l'=TOT∧LOk l' x∧LOk l' y∧t < l'.length∧PS bb rest l' H'∧Kb bb H H'∧isW H' H.length x∧isW H' (H.length+1) y ∧
   F 0 = .ptr bb 0 0∧F 4 = .ptr H.length 0 0∧F 5 = .ptr (H.length+1) 0 0∧F 7=iA t∧F 11 = .int .i64 (k:Nat)) 16
   ⟨0,0,l,rfl,hT,ox,oy,s.v.p0,sX,kX,q4,q5,by simp -implicitDefEqProofs only[vQ,↓reduceIte,jA],by simp -implicitDefEqProofs only[AA,↓reduceIte,jA],by simp -implicitDefEqProofs only[AA,↓reduceIte,jA],by simp -implicitDefEqProofs only[AA,↓reduceIte,jA]; rfl,by simp -implicitDefEqProofs only[AA,↓reduceIte]; rfl⟩ ?_
  clear q4 q5 sX kX
  rintro m F H' ⟨k,t,l',hm,hS,ox',oy',ht,s',k',q4,q5,f0,f4,f5,f7,f11⟩
  simp -implicitDefEqProofs only[vQ,BF,↓reduceIte,enP,f11,TY]
  refine CX (fun hc => ?_) (fun hc => ?_)
  ·have hk':k < 16:=by simpa using hc
   have hxl:k < x.length:=by omega
   have hyl:k < y.length:=by omega
   have hxk:=ox'.getD hxl
   have hyk:=oy'.getD hyl
   rw[LM hxl,LM hyl] at hS
   have hS:((OM (x.getD k 0)).bnd fun n=>(KR n (y.getD k 0)).bnd fun u=>(PN (x.getD k 0) (y.getD k 0)).bnd fun a=>(OM a).bnd fun b=>(KR b t).bnd fun w=>(oOr u w).bnd fun z=>lsL (x.drop (k+1)) (y.drop (k+1)) z) l'=TOT:=hS
   have b1:=s'.lt
   have kl:=k'.len
   simp -implicitDefEqProofs only[vQ,BF,↓reduceIte,jA,f11]
   refine TU (fun F H2 => ∃ u l2,((PN (x.getD k 0) (y.getD k 0)).bnd fun a=>(OM a).bnd fun b=>(KR b t).bnd fun w=>(oOr u w).bnd fun z=>lsL (x.drop (k+1)) (y.drop (k+1)) z) l2=TOT∧u < l2.length∧Xt l' l2∧PS bb rest l2 H2∧Kb bb H' H2 ∧
    F 0 = .ptr bb 0 0∧F 4 = .ptr H.length 0 0∧F 5 = .ptr (H.length+1) 0 0∧F 7=iA t∧F 8 = .int .i64 (k:Nat)∧F 9=iA u∧F 11 = .int .i64 (k:Nat)) (fun _ _=>False) ?_ ?_ (fun _ _ q=>q.elim)
   ·refine GL (.ones [0,1,2,3,4,6] (.alt 5 (.ones [7,8] (.alt 9 (.ones [10] .done) (.non))) (.alt 7 (.alt 5 (.ones [8] (.alt 9 (.ones [10] .done) (.non))) (.alt 8 (.alt 5 (.alt 9 (.ones [10] .done) (.non)) (.non)) (.non))) (.non)))) (by kernel_rfl) ?_
    simp only[DN,JV,jR,jQ]
    simp -implicitDefEqProofs only[vQ,↓reduceIte,jA,jL,enP,f0,f4,f5,f7,PZ hk',ldW q4 hxl,ldW q5 hyl]
    have go : ∀ K:AV→Hp→Prop,(∀ n H1,(isW H1 (H.length+1) y∧∀ K2:AV→Hp→Prop,(∀ u l2 H2,((PN (x.getD k 0) (y.getD k 0)).bnd fun a=>(OM a).bnd fun b=>(KR b t).bnd fun w=>(oOr u w).bnd fun z=>lsL (x.drop (k+1)) (y.drop (k+1)) z) l2=TOT→u < l2.length→Xt l' l2→PS bb rest l2 H2→Kb bb H' H2→K2 (iA u) H2)→ACalls ((En G).wx (X0 bb base Bad)) 144 [.ptr bb 0 0,iA n,iA (y.getD k 0)] H1 K2)→K (iA n) H1)→ACalls ((En G).wx (X0 bb base Bad)) 77 [.ptr bb 0 0,iA (x.getD k 0)] H' K:=by
     intro K hK
     refine(KP G s' _ hxk).use hS hb (hk.trans k') ?_
     intro n l1 H1 en hS1 s1 k1
     obtain⟨x1,n1⟩:=apX s'.v hxk hxk hxk en
     refine hK n H1 ⟨k1.keep _ _ q5 (by omega),fun K2 hK2 => ?_⟩
     refine(KE G s1 _ _ n1 (x1.lt hyk)).use hS1 hb (hk.trans (k'.trans k1)) ?_
     intro u l2 H2 eu hS2 s2 k2
     obtain⟨x2,u2⟩:=apX s1.v n1 (x1.lt hyk) (x1.lt hyk) eu
     exact hK2 u l2 H2 hS2 u2 (x1.trans x2) s2 (k1.trans k2)
    refine⟨go _ ?_,⟨go _ ?_,⟨go _ ?_,trivial⟩,trivial⟩,trivial⟩
    all_goals
     rintro n H1 ⟨q5,hc2⟩
     simp -implicitDefEqProofs only[vQ,↓reduceIte,jA,jL,enP,f5,PZ hk',ldW q5 hyl]
     refine⟨hc2 _ ?_,trivial⟩
     intro u l2 H2 hS2 u2 x2 s2 k2
     simp -implicitDefEqProofs only[vQ,↓reduceIte,jA]
     exact⟨u,l2,hS2,u2,x2,s2,k2,by trivial,by trivial,by trivial,by trivial,by trivial,by trivial,by trivial⟩
   clear f0 f4 f5 f7 f11
   rintro F H2 ⟨u,l2,hS2,u2,x2,s2,k2,f0,f4,f5,f7,f8,f9,f11⟩
   have q4:=k2.keep _ _ q4 (by omega)
   have q5:=k2.keep _ _ q5 (by omega)
   have hx2:=x2.lt hxk
   have hy2:=x2.lt hyk
   simp -implicitDefEqProofs only[vQ]
   refine GL (.ones [0,1,2,3,4,5,6,7,8,11] (.alt 9 (.alt 10 (.alt 12 (.ones [13] .done) .non) .non) .non)) (by kernel_rfl) ?_
   simp only[DN,JV,jR,jQ]
   simp -implicitDefEqProofs only[vQ,BF,↓reduceIte,jA,jL,enP,f0,f4,f5,f7,f8,PZ hk',ldW q4 hxl,ldW q5 hyl]
   refine⟨(SS G s2 _ _ hx2 hy2).use hS2 hb (hk.trans (k'.trans k2)) ?_,trivial⟩
   intro a l3 H3 ea hS3 s3 k3
   obtain⟨x3,a3⟩:=apX s2.v hx2 hy2 hy2 ea
   simp -implicitDefEqProofs only[vQ,↓reduceIte,jA]
   refine⟨(KP G s3 _ a3).use hS3 hb (hk.trans ((k'.trans k2).trans k3)) ?_,trivial⟩
   intro b l4 H4 eb hS4 s4 k4
   obtain⟨x4,b4⟩:=apX s3.v a3 a3 a3 eb
   have t4:=(x2.trans (x3.trans x4)).lt ht
   simp -implicitDefEqProofs only[vQ,↓reduceIte,jA]
   refine⟨(KE G s4 _ _ b4 t4).use hS4 hb (hk.trans (((k'.trans k2).trans k3).trans k4)) ?_,trivial⟩
   intro w l5 H5 ew hS5 s5 k5
   obtain⟨x5,w5⟩:=apX s4.v b4 t4 t4 ew
   have u5:=(x3.trans (x4.trans x5)).lt u2
   simp -implicitDefEqProofs only[vQ,↓reduceIte,jA,f0,f9]
   refine(ND G s5 _ _ u5 w5).use hS5 hb (hk.trans ((((k'.trans k2).trans k3).trans k4).trans k5)) ?_
   intro z l6 H6 ez hS6 s6 k6
   obtain⟨x6,z6⟩:=apX s5.v u5 w5 w5 ez
   have xx:=x2.trans (x3.trans (x4.trans (x5.trans x6)))
   have kk:=((k3.trans k4).trans k5).trans k6
   have b2:=s2.lt
   simp -implicitDefEqProofs only[vQ,BF,↓reduceIte,jA,enP,f11,wrap_succ (show k < 9223372036854775807 by omega)]
   exact⟨m - 1,by omega,k+1,z,l6,by omega,hS6,ox'.go xx,oy'.go xx,z6,s6,(k'.trans k2).trans kk,kk.keep _ _ q4 (by omega),kk.keep _ _ q5 (by omega),by trivial,by trivial,by trivial,by trivial,by trivial⟩
  ·have hk':k=16:=by have:=hc; simp at this; omega
   subst hk'
   rw[zL (show x.length≤16 by omega)] at hS
   simp -implicitDefEqProofs only[vQ,↓reduceIte,jA]
   exact⟨t,l',hS.symm,s',k',f7⟩
 ·rintro F H' ⟨t,l',e,s',k',f7⟩
  simp -implicitDefEqProofs only[vQ,BF,↓reduceIte,f7]
  exact⟨t,l',e,rfl,s',k'⟩
end
end Go.Proofs.YtgnoolgeijmlaaaGreatDoor.Bl
