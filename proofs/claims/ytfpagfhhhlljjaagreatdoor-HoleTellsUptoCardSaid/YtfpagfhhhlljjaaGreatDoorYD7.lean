/- Part 7 of the proof (M3, L1, M4, M5, M6, M7, M8, M9, M10); no condition. -/
import Derived.Test.YtfpagfhhhlljjaaGreatDoorYD6
set_option linter.unusedVariables false
set_option linter.unusedSimpArgs false
set_option maxRecDepth 8000
namespace Go.Proofs.YtfpagfhhhlljjaaGreatDoor.Cov
open Sm Bins Go.RowKit
open Bool renaming not_false→jC,not_true→jU,and_eq_true→jX,true_and→qF,false_eq_true→zA
open List renaming map_cons→jD,map_nil→jE,append_nil→jF,length_map→jH,getElem_mem→jP,drop_eq_nil_of_le→jV,getElem?_map→jY,getElem?_eq_getElem→jS,length_take→zJ,drop_zero→zU,take_of_length_le→jW,all_eq_true→zI,mem_map→zL,take_succ_eq_append_getElem→zN,foldl_cons→wH,drop_eq_getElem_cons→zK,findIdx?_eq_some_iff_getElem→qZ,findIdx?_eq_none_iff→wC,mem_cons→qJ,append_assoc→zH
open Nat renaming le_of_ble_eq_true→jI,reduceEqDiff→jB,add_zero→jK,zero_add→jG,reduceAdd→jM,le_trans→qG,le_refl→jL
open Option renaming getD_some→jA,getD_none→jT
theorem AHL (G:Nat→AV)(p:Pt)(hp:PtOk p)(h:Hp):PCall (En G) 57 [.agg (GI p)] h (.int .i64 (G6 p)):=by
 refine ACalls.pure0 rfl ?_
 have hp1:=hp.ex
 have hp2:=hp.name
 have hp3:=hp.num
 refine acN Tryz.func57 rfl ?_
 show awp _ _ _ _ _ (EM _ [.tmp 2] _)
 simp -implicitDefEqProofs only[vQ,BD,↓reduceIte,jB,enP,AFF,bxP,DW ag9,AMW]
 refine(P6 G p.name _).use ?_
 simp -implicitDefEqProofs only[vQ,BD,↓reduceIte]
 cases h1:IM p.name
 ·simp -implicitDefEqProofs only[vQ,BD,↓reduceIte]
  exact⟨by unfold G6; rw[if_pos h1],_,rfl⟩
 have h1' : ¬ IM p.name=false:=by rw[h1]; decide
 simp -implicitDefEqProofs only[vQ,BD,↓reduceIte,jB,jU,enP,Y6,AI9 (CZ h _)]
 refine(AMR G p.ex _ hp1).use ?_
 simp -implicitDefEqProofs only[vQ,BD,↓reduceIte,enP]
 refine CU (fun h2 => ?_) (fun h2 => ?_)
 ·simp -implicitDefEqProofs only[vQ,BD,↓reduceIte,jB]
  exact⟨by unfold G6; rw[if_neg h1',if_pos (by simpa using h2)],_,rfl⟩
 have h2' : ¬ exE p.ex≠0:=by simpa using h2
 simp -implicitDefEqProofs only[vQ,BD,↓reduceIte,jB,enP,PE,IE,DW RD,NG,jH]
 refine CU (fun h3 => ?_) (fun h3 => ?_)
 ·simp -implicitDefEqProofs only[vQ,BD,↓reduceIte]
  exact⟨by unfold G6; rw[if_neg h1',if_neg h2',if_pos (by simp at h3; simpa using h3)],_,rfl⟩
 have h3' : ¬ p.bins.length=0:=by simp at h3; simpa using h3
 simp -implicitDefEqProofs only[vQ,BD,↓reduceIte,jB,enP,PE,IE,DW RD,NG,jH]
 refine CU (fun h4 => ?_) (fun h4 => ?_)
 ·simp -implicitDefEqProofs only[vQ,BD,↓reduceIte]
  exact⟨by unfold G6; rw[if_neg h1',if_neg h2',if_neg h3',if_pos (by simp at h4; omega)],_,rfl⟩
 have h4' : ¬ 64 < p.bins.length:=by simp at h4; omega
 have hpt:G6 p=if KC IA p.bins≠0 then KC IA p.bins else if PP (p.bins.map (·.name)) then 8 else 0:=by
  unfold G6; rw[if_neg h1',if_neg h2',if_neg h3',if_neg h4']
 simp -implicitDefEqProofs only[vQ,BD]
 refine GZ 0 (fun F H=>F 1 = .ptr h.length 0 0∧H=h++[.live 6 [GI p]]∧KC IA p.bins=0) (fun F H=>F 2 = .int .i64 (G6 p)∧∃ x,H=h++x) ?_ ?_ ?_
 ·refine DL (fun n F H => ∃ k,n+k=p.bins.length∧F 1 = .ptr h.length 0 0∧F 4 = .int .i64 (k:Nat)∧H=h++[.live 6 [GI p]]∧KC IA p.bins=KC IA (p.bins.drop k)) p.bins.length ⟨0,by simp,by simp -implicitDefEqProofs only[AA,↓reduceIte,jB],by simp -implicitDefEqProofs only[AA,↓reduceIte]; rfl,rfl,rfl⟩ ?_
  rintro n F H ⟨k,hk,f1,f4,rfl,hf⟩
  simp -implicitDefEqProofs only[vQ,BD,↓reduceIte,jB,enP,PE,IE,f1,f4,DW RD,NG,jH]
  refine CU (fun hc => ?_) (fun hc => ?_)
  ·have hk':k < p.bins.length:=by simpa using hc
   have hs:=O4 IA p.bins k hk'
   simp -implicitDefEqProofs only[vQ,BD,↓reduceIte,jB,enP,SA,IE,f1,f4,DW RD,NG,DN hk',FU AC6 YQ MG hk']
   refine(valid_ref G p.bins[k] (hp.bins _ (jP hk')) _).use ?_
   simp -implicitDefEqProofs only[vQ,BD,↓reduceIte,enP]
   refine CU (fun hv => ?_) (fun hv => ?_)
   ·simp -implicitDefEqProofs only[vQ,BD,↓reduceIte,jB]
    have hv':IA p.bins[k]≠0:=by simpa using hv
    have:KC IA p.bins=IA p.bins[k]:=by rw[hf,hs,if_neg hv']
    exact⟨by rw[hpt,this,if_pos hv'],_,rfl⟩
   ·have hv':IA p.bins[k]=0:=by simpa using hv
    simp -implicitDefEqProofs only[vQ,BD,↓reduceIte,jB,enP,f4,wrap_succ (show k < 9223372036854775807 by omega)]
    exact⟨n - 1,by omega,k+1,by omega,f1,rfl,trivial,by rw[hf,hs,if_pos hv']⟩
  ·have hk' : ¬ k < p.bins.length:=by simpa using hc
   simp -implicitDefEqProofs only[vQ,↓reduceIte,jB]
   exact⟨f1,trivial,by rw[hf,jV (by omega)]; rfl⟩
 ·rintro F H ⟨f1,rfl,hf⟩
  rw[hf,if_neg (fun hh=>hh rfl)] at hpt
  simp -implicitDefEqProofs only[vQ,BD,↓reduceIte,f1]
  generalize hN:p.bins.map (·.name)=N at hpt
  have hNl:N.length=p.bins.length:=by rw[← hN]; simp
  have hNi : ∀ i (hi:i < p.bins.length),N[i]? = some p.bins[i].name:=fun i hi=>by rw[← hN,jY,jS hi]; rfl
  refine DL (fun n F H => ∃ i,n+i=p.bins.length∧F 1 = .ptr h.length 0 0∧F 5 = .int .i64 (i:Nat)∧H=h++[.live 6 [GI p]]∧PP N=AGX (N.take i) (N.drop i)) p.bins.length ⟨0,by simp,by simp -implicitDefEqProofs only[AA,↓reduceIte,jB,f1],by simp -implicitDefEqProofs only[AA,↓reduceIte]; rfl,rfl,rfl⟩ ?_
  clear f1
  rintro n F H ⟨i,hi,f1,f5,rfl,hd⟩
  simp -implicitDefEqProofs only[vQ,BD,↓reduceIte,jB,enP,PE,IE,f1,f5,DW RD,NG,jH]
  refine CU (fun hc => ?_) (fun hc => ?_)
  ·have hi':i < p.bins.length:=by simpa using hc
   have hdrop:=RQ N i (by omega)
   rw[IC (hNi i hi')] at hdrop
   simp -implicitDefEqProofs only[vQ,BD,f5]
   refine GZ 4 (fun F' H'=>F' 1 = .ptr h.length 0 0∧F' 5 = .int .i64 (i:Nat)∧H'=h++[.live 6 [GI p]]∧JG (N.take i) p.bins[i].name=false) (fun F' H'=>F' 2 = .int .i64 8∧H'=h++[.live 6 [GI p]]∧PP N=true) ?_ ?_ ?_
   ·refine DL (fun n F' H' => ∃ k,n+k=i∧F' 1 = .ptr h.length 0 0∧F' 5 = .int .i64 (i:Nat)∧F' 6 = .int .i64 (k:Nat)∧H'=h++[.live 6 [GI p]]∧JG (N.take i) p.bins[i].name=JG ((N.take i).drop k) p.bins[i].name) i ⟨0,by simp,by simp -implicitDefEqProofs only[AA,↓reduceIte,jB,f1],by simp -implicitDefEqProofs only[AA,↓reduceIte,jB,f5],by simp -implicitDefEqProofs only[AA,↓reduceIte]; rfl,rfl,rfl⟩ ?_
    clear f1 f5
    rintro n' F H' ⟨k,hk,f1,f5,f6,rfl,hin⟩
    simp -implicitDefEqProofs only[vQ,BD,↓reduceIte,jB,enP,f5,f6]
    refine CU (fun hc => ?_) (fun hc => ?_)
    ·have hk':k < i:=by simpa using hc
     have hk2:k < p.bins.length:=by omega
     have hs:=KT (fun u=>p.bins[i].name.toList == u.toList) (N.take i) k (by rw[zJ]; omega)
     have hx:(N.take i)[k]'(by rw[zJ]; omega)=p.bins[k].name:=by
      rw[List.getElem_take]; exact IC (hNi k hk2)
     rw[hx] at hs
     simp -implicitDefEqProofs only[vQ]
     refine EY (by kernel_rfl) ?_
     simp -implicitDefEqProofs only[vQ,LV,↓reduceIte,jB,jM,enP,SA,IE,AFE,f1,f5,f6,DW RD,NG,DN hi',DN hk2,CY ag9 hi',CY ag9 hk2,AMZ]
     refine CU (fun hb => ?_) (fun hb => ?_)
     ·simp -implicitDefEqProofs only[vQ,BD,↓reduceIte]
      have:JG (N.take i) p.bins[i].name=true:=by
       rw[hin]; unfold JG; rw[hs,BEq.comm,hb]; rfl
      exact⟨trivial,trivial,by rw[hd,hdrop,this]; rfl⟩
     ·simp -implicitDefEqProofs only[vQ,BD,↓reduceIte,jB,enP,f6,wrap_succ (show k < 9223372036854775807 by omega)]
      refine⟨n' - 1,by omega,k+1,by omega,f1,f5,rfl,trivial,?_⟩
      rw[hin]; unfold JG; rw[hs,BEq.comm,hb]; rfl
    ·have hk' : ¬ k < i:=by simpa using hc
     simp -implicitDefEqProofs only[vQ,↓reduceIte,jB]
     refine⟨f1,f5,trivial,?_⟩
     rw[hin,jV (by rw[zJ]; omega)]; rfl
   ·rintro F' H' ⟨g1,g5,rfl,hn⟩
    simp -implicitDefEqProofs only[vQ,BD,↓reduceIte,jB,enP,g5,wrap_succ (show i < 9223372036854775807 by omega)]
    refine⟨n - 1,by omega,i+1,by omega,g1,rfl,trivial,?_⟩
    rw[hd,hdrop,hn]; rfl
   ·rintro F' H' ⟨g2,rfl,hdd⟩
    simp -implicitDefEqProofs only[vQ,g2]
    exact⟨by rw[hpt,hdd]; rfl,_,rfl⟩
  ·have hi' : ¬ i < p.bins.length:=by simpa using hc
   simp -implicitDefEqProofs only[vQ,BD,↓reduceIte]
   exact⟨by rw[hpt,hd,jV (by omega)]; rfl,_,rfl⟩
 ·rintro F H ⟨f2,hx⟩
  simp -implicitDefEqProofs only[vQ,f2]
  exact⟨trivial,hx⟩
def outG {α:Type}(k:Nat)(f:α→List AV)(h:Hp)(ys:List α)(v:AV)(H:Hp):Prop :=
 (ys = []∧v = .sl .nil 0 [])∨(ys≠[]∧∃ o,h.length≤o∧v = .own o 0 ys.length∧H[o]? = some (.live k (ys.map f)))
theorem outG.nil {α:Type}(k:Nat)(f:α→List AV)(h H:Hp):outG k f h [] (.sl .nil 0 []) H := .inl ⟨rfl,rfl⟩
theorem outG.keep {α:Type}{k:Nat}{f:α→List AV}{h H H':Hp}{ys:List α}{v:AV}(ho:outG k f h ys v H)(hk : ∀ b,isB v b→H'[b]? = H[b]?):outG k f h ys v H':=by
 rcases ho with h1 | ⟨h1,o,h2,rfl,h3⟩
 ·exact .inl h1
 ·exact .inr ⟨h1,o,h2,rfl,by rw[hk o rfl]; exact h3⟩
theorem outG.lt {α:Type}{k:Nat}{f:α→List AV}{h H:Hp}{ys:List α}{v:AV}{b:Nat}(ho:outG k f h ys v H)(hb:isB v b):h.length≤b∧b < H.length:=by
 rcases ho with⟨_,rfl⟩ | ⟨_,o,h2,rfl,h3⟩
 ·exact hb.elim
 ·cases hb; exact⟨h2,CJ h3⟩
theorem outG.app {α:Type}{k:Nat}{f:α→List AV}{h H:Hp}{ys:List α}{v:AV}(ho:outG k f h ys v H)(x:Hp):outG k f h ys v (H++x) :=
 ho.keep fun _ hb=>List.getElem?_append_left (ho.lt hb).2
theorem outG.append {P:Program}{t e:TypeId}{α:Type}{k bs:Nat}{f:α→List AV}{h H:Hp}{ys:List α}{v:AV}(ho:outG k f h ys v H)(hu:P.underlying t=some (.slice e))(hs:szO P e=some k)(hz:V8 P e=some k)(hb:OB P e=some bs)(hbs:bs≤4194304)(hl:ys.length < 8388608)(he:ext h H)(y:α) :
  ∃ v' H',GM P true H t t v (.sl .full k [f y])=some (v',H')∧outG k f h (ys++[y]) v' H'∧(∀ b x,H[b]? = some x→¬ isB v b→H'[b]? = some x)∧ext h H'∧H.length≤H'.length∧∀ b,isB v' b→b=H.length:=by
 have h1:([f y]:List (List AV))≠[]:=by simp
 rcases ho with⟨rfl,rfl⟩ | ⟨hne,o,h2,rfl,h3⟩
 ·exact⟨_,_,QE hu hs hz hb (JF H .full k [f y]) h1 (JB (by simp) hbs),.inr ⟨by simp,H.length,he.le,rfl,by simp⟩,fun b x hb _=>F7 hb,he.app _,by simp,fun b hb=>hb.symm⟩
 ·have hc:KE H (.own o 0 ys.length)=some (k,ys.map f):=by
   rw[MH h3 (by simp),zU,jW (by simp)]
  refine⟨_,_,Q8 hu hs hz hb hc (JF H .full k [f y]) h1 (JB (by simp; omega) hbs),.inr ⟨by simp,H.length,he.le,by simp,by simp⟩,fun b x hb hn => ?_,(he.set h2 _).app _,by simp,fun b hb=>hb.symm⟩
  have hn' : ¬ o=b:=hn
  refine F7 ?_
  rw[List.getElem?_set,if_neg hn']; exact hb
theorem outG.len {P:Program}{t:TypeId}{α:Type}{k:Nat}{f:α→List AV}{h H:Hp}{ys:List α}{v:AV}(ho:outG k f h ys v H)(hl:(∀ m k xs,L9 P t (.sl m k xs)=some (.int .i64 xs.length))∧∀ b off len,L9 P t (.own b off len)=some (.int .i64 len)):L9 P t v=some (.int .i64 ys.length):=by
 rcases ho with⟨rfl,rfl⟩ | ⟨_,o,_,rfl,_⟩
 ·exact hl.1 _ _ _
 ·exact hl.2 _ _ _
def nm {α:Type}(ys:List α):SM:=match ys with
 | [] => .nil
 | _ => .any
theorem frzF_own (n:Nat)(h:Hp)(d b off len k:Nat)(xs:List (List AV))(hn : ¬ b < n)(hb:h[b]? = some (.live k xs)):IL n h (d+1) (.own b off len)=if off+len≤xs.length∧(((xs.drop off).take len).map (·.map (IL n h d))).all (·.all AV.leaf)=true then .sl .any k (((xs.drop off).take len).map (·.map (IL n h d))) else .junk:=by
 rw[IL]
 simp only[hn,if_false,hb]
def Frz {α:Type}(f:α→List AV):Prop := ∀ (n:Nat) (h:Hp) (d:Nat) (x:α),(f x).map (IL n h (d+1))=f x∧(f x).all AV.leaf=true
theorem frz_rows {α:Type}{f:α→List AV}(hf:Frz f)(n:Nat)(h:Hp)(d:Nat)(xs:List α):(xs.map f).map (·.map (IL n h (d+1)))=xs.map f:=by
 rw[List.map_map]
 exact List.map_congr_left fun x _=>(hf n h d x).1
theorem frz_own {α:Type}{f:α→List AV}(hf:Frz f){n d k:Nat}{h:Hp}{o:Nat}{xs:List α}(hn:n≤o)(ho:h[o]? = some (.live k (xs.map f))):IL n h (d+2) (.own o 0 xs.length) = .sl .any k (xs.map f):=by
 rw[frzF_own n h (d+1) o 0 xs.length k _ (by omega) ho,zU,jW (by simp),frz_rows hf n h d xs]
 rw[if_pos]
 refine⟨by simp,?_⟩
 rw[zI]
 intro row hr
 obtain⟨x,_,rfl⟩:=zL.1 hr
 exact(hf n h d x).2
theorem PW {E:Env}{f:FuncId}{args:List AV}{h:Hp}{α:Type}{k:Nat}{enc:α→List AV}(hf:Frz enc){ys:List α}(hc:ACalls E f args h fun v H=>ext h H∧outG k enc h ys v H):PCall E f args h (.sl (nm ys) k (ys.map enc)):=by
 have h1:ACalls E f args h fun v H=>v=(if ys.length=0 then AV.sl .nil 0 [] else .sl .any k (ys.map enc))∧H=h:=by
  refine ACalls.pure 2 hc ?_
  rintro v H ⟨hex,hout⟩
  refine⟨hex,?_⟩
  rcases hout with⟨rfl,rfl⟩ | ⟨hne,o,ho1,rfl,ho⟩
  ·rfl
  ·rw[if_neg (by simpa using hne)]; exact frz_own hf ho1 ho
 refine h1.conv ?_
 rintro v H ⟨rfl,rfl⟩
 refine⟨_,⟨rfl,rfl⟩,?_⟩
 intro g cv hr
 cases ys with
 | nil=>exact ALY hr
 | cons y ys=>exact hr
def IX (m:Mo)(p:Int):List Bin:=match m.pts[p.toNat]? with
 | some q=>q.bins
 | none => []
def szs (m:Mo)(l:List Int):List Nat:=l.map fun p=>(IX m p).length
def Here (m:Mo)(l:List Int):Prop := ∀ p∈l,0≤p∧p < (m.pts.length:Int)
theorem Here.toNat {m:Mo}{l:List Int}(hh:Here m l){k:Nat}(hk:k < l.length):(l[k]).toNat < m.pts.length:=by
 have:=hh _ (jP hk); omega
theorem Here.bins {m:Mo}{l:List Int}(hh:Here m l){k:Nat}(hk:k < l.length):(m.pts[(l[k]).toNat]'(hh.toNat hk)).bins=IX m l[k]:=by
 unfold IX; rw[jS (hh.toNat hk)]
theorem Here.ix {m:Mo}{l:List Int}(hh:Here m l){k:Nat}(hk:k < l.length)(h:Hp)(s:SM):J3 6 h (.sl s 6 (m.pts.map GI)) (.int .i64 l[k])=some (.fptr 6 (m.pts.map GI) (l[k]).toNat 0):=by
 have:=hh _ (jP hk)
 exact A2P this.1 (by rw[jH]; exact this.2)
theorem Here.ld {m:Mo}{l:List Int}(hh:Here m l){k:Nat}(hk:k < l.length)(h:Hp) : ∃ s,D8 Tryz.prog h 49 (.fptr 6 (m.pts.map GI) (l[k]).toNat 5)=some (.sl s 4 ((IX m l[k]).map G9)):=by
 rw[CY RD (hh.toNat hk),NG,hh.bins hk]
 exact⟨_,rfl⟩
theorem A00:Frz qencI:=fun _ _ _ _=>⟨rfl,rfl⟩
theorem AG2 (h:Hp)(v:Int):FM Tryz.prog false h 26 1 [(0,.int .i64 v)]=some (.sl .full 1 [[.int .i64 v]],h):=by kernel_rfl
def JI (n:Nat):List AV := [.int .i64 (n:Int)]
theorem AXJ:Frz JI:=fun _ _ _ _=>⟨rfl,rfl⟩
theorem encN0 (n:Nat):(JI n)[0]? = some (.int .i64 (n:Int)):=rfl
theorem encI0 (n:Int):(qencI n)[0]? = some (.int .i64 n):=rfl
theorem AKP (m:Mo)(l:List Int)(k:Nat)(hk:k < l.length):szs m (l.take (k+1))=szs m (l.take k)++[(IX m l[k]).length]:=by
 unfold szs; rw[zN hk,List.map_append]; rfl
theorem YS (G:Nat→AV)(m:Mo)(c:Cr)(h:Hp)(hh:Here m c.pts)(hl:c.pts.length≤1048576):PCall (En G) 86 [.agg (EE m),.agg (GV c)] h (.sl (nm (szs m c.pts)) 1 ((szs m c.pts).map JI)):=by
 refine PW AXJ ?_
 refine acN Tryz.func86 rfl ?_
 show awp _ _ _ _ _ (EM _ [.tmp 4] _)
 simp -implicitDefEqProofs only[vQ,BD,↓reduceIte,jB,enP,IZ,JH,bxM,bxC,DW KO,QJ,jH]
 have hb0:(h++[ABlk.live 2 [EE m]]++[ABlk.live 3 [GV c]])[h.length]? = some (.live 2 [EE m]):=CX (CZ _ _)
 refine DL (fun n F H => ∃ k,n+k=c.pts.length∧F 2 = .ptr h.length 0 0∧F 9 = .sl c.pm 1 (c.pts.map qencI)∧F 10 = .int .i64 c.pts.length∧F 11 = .int .i64 (k:Nat)∧H[h.length]? = some (.live 2 [EE m])∧ext h H∧(∀ b,isB (F 5) b→h.length < b)∧outG 1 JI h (szs m (c.pts.take k)) (F 5) H) c.pts.length ⟨0,by simp,by simp -implicitDefEqProofs only[AA,↓reduceIte,jB],by simp -implicitDefEqProofs only[AA,↓reduceIte,jB],by simp -implicitDefEqProofs only[AA,↓reduceIte,jB],by simp -implicitDefEqProofs only[AA,↓reduceIte]; rfl,hb0,((ext.rfl' h).app _).app _,fun b hb=>hb.elim,outG.nil _ _ _ _⟩ ?_
 rintro n F H ⟨k,hk,f2,f9,f10,f11,hb,he,hlt,ho⟩
 simp -implicitDefEqProofs only[vQ,BD,↓reduceIte,enP,f10,f11]
 refine CU (fun hc => ?_) (fun hc => ?_)
 ·have hk':k < c.pts.length:=by simpa using hc
  have lm:D8 Tryz.prog H 22 (.ptr h.length 0 0)=some (.sl m.pm 6 (m.pts.map GI)):=by rw[DY ZB hb (row:=EE m) rfl,SL]
  obtain⟨s,ls⟩:=hh.ld hk' H
  have hzl:(szs m (c.pts.take k)).length < 8388608:=by unfold szs; simp; omega
  obtain⟨v',H',ha,ho',hkeep,he',hle,hb'⟩:=ho.append VF sz3 YL XC (by omega) hzl he (IX m c.pts[k]).length
  simp -implicitDefEqProofs only[vQ,BD,↓reduceIte,jB,enP,PG,GU,IB,PE,IE,f2,f9,f11,DN hk',CY ag3 hk',encI0,lm,hh.ix hk',ls,jH,AG2]
  refine KQ (v:=v') (h:=H') (by rw[show [[AV.int .i64 ((IX m c.pts[k]).length:Int)]] = [JI (IX m c.pts[k]).length] from rfl,ha]) ?_
  simp -implicitDefEqProofs only[vQ,BD,↓reduceIte,jB,enP,f11,wrap_succ (show k < 9223372036854775807 by omega)]
  refine⟨n - 1,by omega,k+1,by omega,f2,f9,f10,rfl,hkeep _ _ hb (fun e=>by have:=hlt _ e; omega),he',fun b hbb => ?_,?_⟩
  ·have:=hb' b hbb; have:=CJ hb; omega
  ·rw[AKP m c.pts k hk']; exact ho'
 ·have hk' : ¬ k < c.pts.length:=by simpa using hc
  rw[jW (by omega)] at ho
  simp -implicitDefEqProofs only[vQ,BD,↓reduceIte,jB]
  exact⟨he,ho⟩
def H8 (l:List Nat):Nat:=l.foldl (· * ·) 1
theorem YX (l:List Nat)(k:Nat)(hk:k < l.length):H8 (l.take (k+1))=H8 (l.take k) * l[k]:=by
 unfold H8; rw[zN hk,List.foldl_append]; rfl
theorem ALJ (l:List Nat)(k:Nat)(h : ∀ n∈l,n≤64)(hk:l.length≤k):H8 l≤64 ^ k:=by
 have gen : ∀ (l:List Nat) (a:Nat) (j:Nat),(∀ n∈l,n≤64)→a≤64 ^ j→l.foldl (· * ·) a≤64 ^ (j+l.length):=by
  intro l
  induction l with
  | nil=>intro a j _ ha; exact ha
  | cons x l ih =>
    intro a j hl ha
    rw[wH,List.length_cons,show j+(l.length+1)=(j+1)+l.length by omega]
    refine ih _ _ (fun n hn=>hl n (by simp [hn])) ?_
    rw[Nat.pow_succ]
    exact Nat.mul_le_mul ha (hl x (by simp))
 have:=gen l 1 0 h (by simp)
 rw[jG] at this
 exact qG this (Nat.pow_le_pow_right (by omega) hk)
theorem AED (l:List Nat)(k:Nat)(h : ∀ n∈l,1≤n):H8 (l.take k)≤H8 l:=by
 have gen : ∀ (l:List Nat) (a:Nat),(∀ n∈l,1≤n)→a≤l.foldl (· * ·) a:=by
  intro l
  induction l with
  | nil=>intro a _; exact jL _
  | cons x l ih =>
    intro a hl
    rw[wH]
    refine qG ?_ (ih _ (fun n hn=>hl n (by simp [hn])))
    exact Nat.le_mul_of_pos_right a (hl x (by simp))
 have h2:H8 l=(l.drop k).foldl (· * ·) (H8 (l.take k)):=by
  unfold H8
  conv=>lhs; rw[← List.take_append_drop k l,List.foldl_append]
 rw[h2]
 exact gen _ _ (fun n hn=>h n (List.mem_of_mem_drop hn))
theorem ZY (G:Nat→AV)(l:List Nat)(s:SM)(h:Hp)(hl : ∀ n∈l,n≤64)(hk:l.length≤4):PCall (En G) 87 [.sl s 1 (l.map JI)] h (.int .i64 (H8 l)):=by
 refine acN Tryz.func87 rfl ?_
 show awp _ _ _ _ _ (EM _ [.tmp 2] _)
 simp -implicitDefEqProofs only[vQ,BD,↓reduceIte,jB,enP,IZ,jH]
 have hp : ∀ k,H8 (l.take k)≤16777216:=fun k=>by
  have:=ALJ (l.take k) 4 (fun n hn=>hl n (List.mem_of_mem_take hn)) (by rw[zJ]; omega)
  simpa using this
 refine DL (fun n F H => ∃ k,n+k=l.length∧F 3 = .int .i64 (H8 (l.take k))∧F 6 = .sl s 1 (l.map JI)∧F 7 = .int .i64 l.length∧F 8 = .int .i64 (k:Nat)∧H=h) l.length ⟨0,by simp,by simp -implicitDefEqProofs only[AA,↓reduceIte,jB]; rfl,by simp -implicitDefEqProofs only[AA,↓reduceIte,jB],by simp -implicitDefEqProofs only[AA,↓reduceIte,jB],by simp -implicitDefEqProofs only[AA,↓reduceIte]; rfl,rfl⟩ ?_
 rintro n F H ⟨k,hk,f3,f6,f7,f8,rfl⟩
 simp -implicitDefEqProofs only[vQ,BD,↓reduceIte,enP,f7,f8]
 refine CU (fun hc => ?_) (fun hc => ?_)
 ·have hk':k < l.length:=by simpa using hc
  have h1:=hp (k+1)
  rw[YX l k hk'] at h1
  have hw:IntKind.i64.wrap ((H8 (l.take k):Int) * (l[k]:Int))=((H8 (l.take (k+1)):Nat):Int):=by
   rw[YX l k hk',← Int.natCast_mul,LQ (by omega)]
  simp -implicitDefEqProofs only[vQ,BD,OJ,↓reduceIte,jB,enP,IB,f3,f6,f8,DN hk',CY ag3 hk',encN0,hw,wrap_succ (show k < 9223372036854775807 by omega)]
  exact⟨n - 1,by omega,k+1,by omega,rfl,trivial,f7,rfl,trivial⟩
 ·have hk' : ¬ k < l.length:=by simpa using hc
  rw[jW (by omega)] at f3
  simp -implicitDefEqProofs only[vQ,BD,↓reduceIte,jB,f3]
  exact⟨trivial,trivial⟩
def JV:List Nat→List Int→Bool
 | [],[]=>true
 | n :: ns,x :: xs=>decide (0≤x) && decide (x < (n:Int)) && JV ns xs
 | _,_=>false
theorem AW8 (ns:List Nat):JV ns []=(ns.length == 0):=by cases ns <;> rfl
theorem MR : ∀ {ns:List Nat} {xs:List Int},JV ns xs=true→ns.length=xs.length
 | [],[],_=>rfl
 | n :: ns,x :: xs,h=>by
   simp only[JV,jX] at h
   simp [MR h.2]
 | [],_ :: _,h=>by cases h
 | _ :: _,[],h=>by cases h
theorem inside_prog (G:Nat→AV)(ns:List Nat)(xs:List Int)(s t:SM)(h:Hp)(hn:ns.length≤1048576):PCall (En G) 90 [.sl s 1 (ns.map JI),.sl t 1 (xs.map qencI)] h (.bool (JV ns xs)):=by
 refine acN Tryz.func90 rfl ?_
 show awp _ _ _ _ _ (EM _ [.tmp 4] _)
 simp -implicitDefEqProofs only[vQ,BD,↓reduceIte,jB,enP,IZ,jH]
 refine DL (fun n F H => ∃ k,n+k=xs.length∧k≤ns.length∧F 0 = .sl s 1 (ns.map JI)∧F 1 = .sl t 1 (xs.map qencI)∧F 7 = .sl t 1 (xs.map qencI)∧F 8 = .int .i64 xs.length∧F 9 = .int .i64 (k:Nat)∧H=h∧JV ns xs=JV (ns.drop k) (xs.drop k)) xs.length ⟨0,by simp,by simp,by simp -implicitDefEqProofs only[vQ,↓reduceIte,jB],by simp -implicitDefEqProofs only[vQ,↓reduceIte,jB],by simp -implicitDefEqProofs only[AA,↓reduceIte,jB],by simp -implicitDefEqProofs only[AA,↓reduceIte,jB],by simp -implicitDefEqProofs only[AA,↓reduceIte]; rfl,rfl,rfl⟩ ?_
 rintro n F H ⟨k,hk,hkn,f0,f1,f7,f8,f9,rfl,hi⟩
 simp -implicitDefEqProofs only[vQ,BD,↓reduceIte,enP,f8,f9]
 refine CU (fun hc => ?_) (fun hc => ?_)
 ·have hk':k < xs.length:=by simpa using hc
  rw[zK hk'] at hi
  simp -implicitDefEqProofs only[vQ,CP,BD,↓reduceIte,jB,enP,IB,IZ,f0,f7,f9,DN hk',CY ag3 hk',encI0,jH]
  refine I4 (fun ha => ?_) (fun ha => ?_)
  ·simp -implicitDefEqProofs only[vQ,CP,BD,EW,↓reduceIte,jB,ha]
   have:ns.length≤k:=by simp at ha; omega
   rw[jV this] at hi
   exact⟨by rw[hi]; rfl,trivial⟩
  have hkn':k < ns.length:=by simp at ha; omega
  rw[zK hkn'] at hi
  simp -implicitDefEqProofs only[vQ,CP,BD,↓reduceIte,jB,enP,ha]
  refine I4 (fun hb => ?_) (fun hb => ?_)
  ·simp -implicitDefEqProofs only[vQ,CP,BD,EW,↓reduceIte,jB,hb]
   have:decide (0≤xs[k])=false:=by simp at hb ⊢; omega
   exact⟨by rw[hi]; unfold JV; rw[this]; rfl,trivial⟩
  have h0:decide (0≤xs[k])=true:=by simp at hb ⊢; omega
  simp -implicitDefEqProofs only[vQ,CP,BD,↓reduceIte,jB,enP,IB,hb,f0,DN hkn',CY ag3 hkn',encN0]
  refine CU (fun hd => ?_) (fun hd => ?_)
  ·simp -implicitDefEqProofs only[vQ,BD,↓reduceIte]
   have:decide (xs[k] < (ns[k]:Int))=false:=by simp at hd ⊢; omega
   exact⟨by rw[hi]; unfold JV; rw[this,h0]; rfl,trivial⟩
  have h1:decide (xs[k] < (ns[k]:Int))=true:=by simp at hd ⊢; omega
  simp -implicitDefEqProofs only[vQ,BD,↓reduceIte,jB,enP,f9,wrap_succ (show k < 9223372036854775807 by omega)]
  refine⟨n - 1,by omega,k+1,by omega,by omega,f0,f1,f7,f8,rfl,trivial,?_⟩
  rw[hi]
  conv=>lhs; unfold JV
  rw[h0,h1]; rfl
 ·have hk' : ¬ k < xs.length:=by simpa using hc
  simp -implicitDefEqProofs only[vQ,BD,↓reduceIte,jB,enP,IZ,f0,f1,jH]
  refine⟨?_,trivial⟩
  rw[hi,jV (show xs.length≤k by omega),AW8,List.length_drop]
  congr 1
  rw[Bool.eq_iff_iff]; simp; omega
theorem AMD (G:Nat→AV)(xs:List Is)(m:SM)(fid:FuncId)(caps:List AV)(p:Is→Bool)(h:Hp)(hl:xs.length≤1099511627776)
  (hf : ∀ r,PCall (En G) fid (.sl r.m 1 (r.l.map qencI) :: caps) h (.bool (p r))) :
  PCall (En G) 134 [.sl m 1 (xs.map encL),.fn (.func fid) [] caps] h (.int .i64 (match xs.findIdx? p with | some i=>(i:Int) | none => -1)):=by
 refine acN Tryz.func134 rfl ?_
 show awp _ _ _ _ _ (EM _ [.tmp 4] _)
 simp -implicitDefEqProofs only[vQ,BD,↓reduceIte,jB,enP,AC0,jH]
 refine DL (fun n F H => ∃ k,n+k=xs.length∧F 0 = .sl m 1 (xs.map encL)∧F 1 = .fn (.func fid) [] caps∧F 7 = .int .i64 xs.length∧F 8 = .int .i64 (k:Nat)∧H=h∧(xs.take k).all (fun r => !p r)=true) xs.length ⟨0,by simp,rfl,rfl,rfl,rfl,rfl,rfl⟩ ?_
 rintro n F H ⟨k,hk,f0,f1,f7,f8,rfl,hin⟩
 simp -implicitDefEqProofs only[vQ,BD,↓reduceIte,enP,f0,f1,f7,f8,jH]
 refine CU (fun hc => ?_) (fun hc => ?_)
 ·have hc':k < xs.length:=by simpa using hc
  simp -implicitDefEqProofs only[vQ,BD,List.nil_append,List.cons_append,↓reduceIte,jB,enP,PO,f0,f1,f7,f8,DN hc',CY KO hc',PT]
  refine(hf _).use ?_
  simp -implicitDefEqProofs only[vQ,↓reduceIte]
  refine CU (fun hb => ?_) (fun hb => ?_)
  ·simp -implicitDefEqProofs only[vQ,BD,↓reduceIte,jB]
   refine⟨?_,trivial⟩
   rw[qZ.2 ⟨hc',hb,fun j hj=>by
    rw[zI] at hin
    have:=hin xs[j] (by rw[List.mem_take_iff_getElem]; exact⟨j,by omega,rfl⟩)
    simpa using this⟩]
  ·simp -implicitDefEqProofs only[vQ,BD,↓reduceIte,jB,enP,f8,wrap_succ (show k < 9223372036854775807 by omega)]
   refine⟨n - 1,by omega,k+1,by omega,f0,f1,f7,rfl,trivial,?_⟩
   rw[zN hc',List.all_append,hin]
   simp only[List.all_cons,List.all_nil,hb]; rfl
 ·have hc' : ¬ k < xs.length:=by simpa using hc
  simp -implicitDefEqProofs only[vQ,BD,↓reduceIte]
  refine⟨?_,trivial⟩
  rw[jW (by omega)] at hin
  rw[wC.2 (by simpa using hin)]
theorem SQ (G:Nat→AV)(xs:List Is)(m:SM)(fid:FuncId)(caps:List AV)(p:Is→Bool)(h:Hp)(hl:xs.length≤1099511627776)
  (hf : ∀ r,PCall (En G) fid (.sl r.m 1 (r.l.map qencI) :: caps) h (.bool (p r))) :
  PCall (En G) 88 [.sl m 1 (xs.map encL),.fn (.func fid) [] caps] h (.bool (xs.any p)):=by
 refine acN Tryz.func88 rfl ?_
 show awp _ _ _ _ _ (EM _ [.tmp 4] _)
 simp -implicitDefEqProofs only[vQ,BD,↓reduceIte,jB,enP]
 refine(AMD G xs m fid caps p h hl hf).use ?_
 simp -implicitDefEqProofs only[vQ,BD,↓reduceIte,enP]
 refine⟨?_,trivial⟩
 cases hx:xs.findIdx? p with
 | some i =>
   obtain⟨h1,h2,_⟩:=qZ.1 hx
   have:xs.any p=true:=List.any_eq_true.2 ⟨xs[i],by simp,h2⟩
   simp [this]
 | none =>
   have:xs.any p=false:=by
    rw[wC] at hx
    rw[List.any_eq_false]; intro x hx2; simp [hx x hx2]
   simp [this]
theorem AI1 (G:Nat→AV)(ns:List Nat)(s:SM)(b:Nat)(r:Is)(h:Hp)(hb:h[b]? = some (.live 1 [[.sl s 1 (ns.map JI)]]))(hn:ns.length≤1048576) :
  PCall (En G) 89 [.sl r.m 1 (r.l.map qencI),.ptr b 0 0] h (.bool (!JV ns r.l)):=by
 refine acN Tryz.func89 rfl ?_
 show awp _ _ _ _ _ (EM _ [.tmp 3] _)
 simp -implicitDefEqProofs only[vQ,BD,↓reduceIte,jB,enP,J8 KO hb]
 refine(inside_prog G ns r.l s r.m h hn).use ?_
 simp -implicitDefEqProofs only[vQ,BD,↓reduceIte]
 exact⟨trivial,trivial⟩
def WV (n:Nat):Option Int→List Int→Bool
 | _,[]=>true
 | o,p :: ps=>(decide (0≤p) && decide (p < (n:Int)) && (match o with | some q=>decide (q < p) | none=>true)) && WV n (some p) ps
def prev (l:List Int)(k:Nat):Option Int:=match k with
 | 0=>none
 | k+1=>l[k]?
theorem AHW (n:Nat)(l:List Int)(k:Nat)(hk:k < l.length):WV n (prev l k) (l.drop k)=((decide (0≤l[k]) && decide (l[k] < (n:Int)) && (match prev l k with | some q=>decide (q < l[k]) | none=>true)) && WV n (prev l (k+1)) (l.drop (k+1))):=by
 rw[zK hk]
 have:prev l (k+1)=some l[k]:=by unfold prev; exact jS hk
 rw[this]; rfl
theorem XM {m:Mo} : ∀ {l:List Int} {o:Option Int},WV m.pts.length o l=true→Here m l
 | [],_,_=>fun p hp=>by cases hp
 | x :: l,o,h=>by
   simp only[WV,jX,decide_eq_true_eq] at h
   intro p hp
   cases qJ.1 hp with
   | inl e=>subst e; exact⟨h.1.1.1,h.1.1.2⟩
   | inr e=>exact XM h.2 p e
def IW (m:Mo)(c:Cr):Int :=
 if IM c.name=false then 7 else if c.pts.length < 2∨4 < c.pts.length then 1 else if WV m.pts.length none c.pts=false then 1 else
  if 256 < H8 (szs m c.pts)∨256 < c.excl.length then 2 else if(c.excl.any fun x => !JV (szs m c.pts) x.l) then 1 else 0
structure CrOk (c:Cr):Prop where
 name:c.name.size≤1048576
 pts:c.pts.length≤1048576
 excl:c.excl.length≤1048576
 each : ∀ x∈c.excl,x.l.length≤1048576
def Full (m:Mo):Prop := ∀ p∈m.pts,1≤p.bins.length∧p.bins.length≤64
theorem Full.szs {m:Mo}{l:List Int}(hf:Full m)(hh:Here m l) : ∀ n∈szs m l,1≤n∧n≤64:=by
 intro n hn
 obtain⟨p,hp,rfl⟩:=zL.1 hn
 obtain⟨h0,h1⟩:=hh p hp
 have hlt:p.toNat < m.pts.length:=by omega
 have:IX m p=(m.pts[p.toNat]).bins:=by unfold IX; rw[jS hlt]
 rw[this]
 exact hf _ (jP hlt)
theorem A9L (h:Hp):KN Tryz.prog h 26=some (.ptr h.length 0 0,h++[.live 1 [[.sl .nil 0 []]]]):=KD (row := [.sl .nil 0 []]) (by kernel_rfl)
theorem ldM {h:Hp}{b:Nat}{m:Mo}(hb:h[b]? = some (.live 2 [EE m])):D8 Tryz.prog h 25 (.ptr b 0 0)=some (.agg (EE m)):=by
 rw[IJ A78 A3M hb rfl (by rw[AXT]; exact jL 2)]; rfl
theorem ldC {h:Hp}{b:Nat}{c:Cr}(hb:h[b]? = some (.live 3 [GV c])):D8 Tryz.prog h 69 (.ptr b 0 0)=some (.agg (GV c)):=by
 rw[IJ AAZ XV hb rfl (by rw[KH]; exact jL 3)]; rfl
theorem APK (G:Nat→AV)(hG:GOk G)(m:Mo)(c:Cr)(hc:CrOk c)(hf:Full m)(h:Hp):PCall (En G) 53 [.agg (EE m),.agg (GV c)] h (.int .i64 (IW m c)):=by
 refine ACalls.pure0 rfl ?_
 have hc1:=hc.name
 have hc2:=hc.pts
 have hc3:=hc.excl
 refine acN Tryz.func53 rfl ?_
 show awp _ _ _ _ _ (EM _ [.tmp 4] _)
 have gm:(h++[ABlk.live 2 [EE m]]++[ABlk.live 3 [GV c]])[h.length]? = some (.live 2 [EE m]):=CX (CZ _ _)
 have gc:(h++[ABlk.live 2 [EE m]]++[ABlk.live 3 [GV c]])[(h++[ABlk.live 2 [EE m]]).length]? = some (.live 3 [GV c]):=CZ _ _
 have hx : ∃ x,h++[ABlk.live 2 [EE m]]++[ABlk.live 3 [GV c]]=h++x:=⟨_,zH _ _ _⟩
 have hlt:h.length < (h++[ABlk.live 2 [EE m]]).length:=by simp
 simp -implicitDefEqProofs only[vQ,BD,↓reduceIte,jB,enP,AFD,bxM,bxC]
 generalize h++[ABlk.live 2 [EE m]]++[ABlk.live 3 [GV c]]=H at gm gc hx ⊢
 generalize (h++[ABlk.live 2 [EE m]]).length=cb at gc hlt ⊢
 have lm:D8 Tryz.prog H 22 (.ptr h.length 0 0)=some (.sl m.pm 6 (m.pts.map GI)):=by rw[DY ZB gm (row:=EE m) rfl,SL]
 have lc0:D8 Tryz.prog H 9 (.ptr cb 0 0)=some (.str c.name):=by rw[DY ag9 gc (row:=GV c) rfl,AMY]
 have lc1:D8 Tryz.prog H 26 (.ptr cb 0 1)=some (.sl c.pm 1 (c.pts.map qencI)):=by rw[DY KO gc (row:=GV c) rfl,QJ]
 have lc2:D8 Tryz.prog H 67 (.ptr cb 0 2)=some (.sl c.xm 1 (c.excl.map encL)):=by rw[DY UE gc (row:=GV c) rfl,ASA]
 simp -implicitDefEqProofs only[vQ,BD,↓reduceIte,lc0]
 refine(O1 G hG.kw c.name _ (by omega)).use ?_
 simp -implicitDefEqProofs only[vQ,BD,↓reduceIte]
 cases h1:IM c.name
 ·simp -implicitDefEqProofs only[vQ,BD,↓reduceIte]
  exact⟨by unfold IW; rw[if_pos h1],hx⟩
 have h1' : ¬ IM c.name=false:=by rw[h1]; decide
 simp -implicitDefEqProofs only[vQ,CP,BD,↓reduceIte,jB,jU,enP,IZ,JH,lc1,jH]
 refine I4 (fun h2 => ?_) (fun h2 => ?_)
 ·simp -implicitDefEqProofs only[vQ,CP,BD,EW,↓reduceIte,jB,h2]
  exact⟨by unfold IW; rw[if_neg h1',if_pos (.inl (by simp at h2; omega))],hx⟩
 simp -implicitDefEqProofs only[vQ,CP,BD,↓reduceIte,jB,enP,IZ,JH,h2,lc1,jH]
 refine CU (fun h3 => ?_) (fun h3 => ?_)
 ·simp -implicitDefEqProofs only[vQ,BD,↓reduceIte]
  exact⟨by unfold IW; rw[if_neg h1',if_pos (.inr (by simp at h3; omega))],hx⟩
 have h23 : ¬ (c.pts.length < 2∨4 < c.pts.length):=by simp at h2 h3; omega
 simp -implicitDefEqProofs only[vQ,BD,↓reduceIte,jB,enP,IZ,JH,lc1,jH]
 refine GZ 0 (fun F H'=>F 2 = .ptr h.length 0 0∧F 3 = .ptr cb 0 0∧H'=H∧WV m.pts.length none c.pts=true) (fun F H'=>F 4 = .int .i64 1∧H'=H∧WV m.pts.length none c.pts=false) ?_ ?_ ?_
 ·refine DL (fun n F H' => ∃ k,n+k=c.pts.length∧F 2 = .ptr h.length 0 0∧F 3 = .ptr cb 0 0∧F 23 = .sl c.pm 1 (c.pts.map qencI)∧F 24 = .int .i64 c.pts.length∧F 25 = .int .i64 (k:Nat)∧H'=H∧WV m.pts.length none c.pts=WV m.pts.length (prev c.pts k) (c.pts.drop k)) c.pts.length ⟨0,by simp,by simp -implicitDefEqProofs only[AA,↓reduceIte,jB],by simp -implicitDefEqProofs only[AA,↓reduceIte,jB],by simp -implicitDefEqProofs only[AA,↓reduceIte,jB],by simp -implicitDefEqProofs only[AA,↓reduceIte,jB],by simp -implicitDefEqProofs only[AA,↓reduceIte]; rfl,rfl,rfl⟩ ?_
  rintro n F H' ⟨k,hk,f2,f3,f23,f24,f25,rfl,hi⟩
  simp -implicitDefEqProofs only[vQ,BD,↓reduceIte,enP,f24,f25]
  refine CU (fun hlt => ?_) (fun hlt => ?_)
  ·have hk':k < c.pts.length:=by simpa using hlt
   rw[AHW _ _ _ hk'] at hi
   simp -implicitDefEqProofs only[vQ,CP,BD,↓reduceIte,jB,enP,IB,f2,f3,f23,f25,DN hk',CY ag3 hk',encI0]
   refine I4 (fun ha => ?_) (fun ha => ?_)
   ·simp -implicitDefEqProofs only[vQ,CP,BD,EW,↓reduceIte,jB,ha]
    have:decide (0≤c.pts[k])=false:=by simp at ha ⊢; omega
    exact⟨trivial,trivial,by rw[hi,this]; rfl⟩
   have ha':decide (0≤c.pts[k])=true:=by simp at ha ⊢; omega
   simp -implicitDefEqProofs only[vQ,CP,BD,↓reduceIte,jB,enP,OE,GU,ha,f2,lm,jH]
   refine I4 (fun hb => ?_) (fun hb => ?_)
   ·simp -implicitDefEqProofs only[vQ,CP,BD,EW,↓reduceIte,jB,hb]
    have:decide (c.pts[k] < (m.pts.length:Int))=false:=by simp at hb ⊢; omega
    exact⟨trivial,trivial,by rw[hi,this,ha']; rfl⟩
   have hb':decide (c.pts[k] < (m.pts.length:Int))=true:=by simp at hb ⊢; omega
   rw[ha',hb'] at hi
   simp only[qF] at hi
   cases k with
   | zero =>
     have hz:decide ((((0:Nat):Int)) > 0)=false:=by decide
     simp -implicitDefEqProofs only[vQ,CP,BD,EW,↓reduceIte,jB,enP,hb,hz,f25,wrap_succ (show 0 < 9223372036854775807 by omega)]
     exact⟨n - 1,by omega,1,by omega,f2,f3,f23,f24,rfl,trivial,by rw[hi]; rfl⟩
   | succ k =>
     have hz:decide ((((k+1:Nat):Int)) > 0)=true:=by simp
     have hw:IntKind.i64.wrap (((k+1:Nat):Int) - 1)=(k:Int):=by rw[wrap_i64 (by omega) (by omega)]; omega
     have hk2:k < c.pts.length:=by omega
     have hpv:prev c.pts (k+1)=some c.pts[k]:=by unfold prev; exact jS hk2
     rw[hpv] at hi
     simp -implicitDefEqProofs only[vQ,CP,BD,↓reduceIte,jB,enP,IB,JH,hb,hz,f3,lc1,hw,DN hk2,CY ag3 hk2,encI0]
     refine CU (fun hd => ?_) (fun hd => ?_)
     ·simp -implicitDefEqProofs only[vQ,BD,↓reduceIte]
      have:decide (c.pts[k] < c.pts[k+1])=false:=by simp at hd ⊢; omega
      exact⟨trivial,trivial,by rw[hi]; simp only[this]; rfl⟩
     ·simp -implicitDefEqProofs only[vQ,BD,↓reduceIte,jB,enP,f25,wrap_succ (show k+1 < 9223372036854775807 by omega)]
      have:decide (c.pts[k] < c.pts[k+1])=true:=by simp at hd ⊢; omega
      exact⟨n - 1,by omega,k+1+1,by omega,f2,f3,f23,f24,rfl,trivial,by rw[hi]; simp only[this]; rfl⟩
  ·have hk' : ¬ k < c.pts.length:=by simpa using hlt
   simp -implicitDefEqProofs only[vQ,↓reduceIte,jB]
   exact⟨f2,f3,trivial,by rw[hi,jV (by omega)]; rfl⟩
 ·rintro F H' ⟨f2,f3,rfl,hi⟩
  have hh:=XM hi
  have hi' : ¬ WV m.pts.length none c.pts=false:=by rw[hi]; decide
  simp -implicitDefEqProofs only[vQ,BD,↓reduceIte,jB,enP,f2,f3,ldM gm,ldC gc]
  refine(YS G m c _ hh (by omega)).use ?_
  have hsz:(szs m c.pts).length≤4:=by unfold szs; simp; omega
  have hst:=TG (t:=26) (v := .sl .nil 0 []) (u := .sl (nm (szs m c.pts)) 1 ((szs m c.pts).map JI)) ABB (AY0 _ _ _) (CZ H' (.live 1 [[.sl .nil 0 []]]))
  rw[AIR] at hst
  simp -implicitDefEqProofs only[vQ,BD,↓reduceIte,jB,enP,jT,A9L,hst,J8 KO (CZ H' _)]
  refine(ZY G _ _ _ (fun n hn=>(hf.szs hh n hn).2) hsz).use ?_
  have hx2 : ∃ x,H'++[ABlk.live 1 [[AV.sl (nm (szs m c.pts)) 1 ((szs m c.pts).map JI)]]]=h++x:=by
   obtain⟨x,hx⟩:=hx
   exact⟨x++_,by rw[hx,zH]⟩
  have lc2' : ∀ x,D8 Tryz.prog (H'++[x]) 67 (.ptr cb 0 2)=some (.sl c.xm 1 (c.excl.map encL)):=fun x=>by rw[DY UE (CX gc) (row:=GV c) rfl,ASA]
  simp -implicitDefEqProofs only[vQ,CP,BD,↓reduceIte,enP]
  refine I4 (fun ha => ?_) (fun ha => ?_)
  ·simp -implicitDefEqProofs only[vQ,CP,BD,EW,↓reduceIte,jB,ha]
   exact⟨by unfold IW; rw[if_neg h1',if_neg h23,if_neg hi',if_pos (.inl (by simp at ha; omega))],hx2⟩
  simp -implicitDefEqProofs only[vQ,CP,BD,↓reduceIte,jB,enP,AC0,QP,ha,f3,lc2',jH]
  refine CU (fun hb => ?_) (fun hb => ?_)
  ·simp -implicitDefEqProofs only[vQ,BD,↓reduceIte]
   exact⟨by unfold IW; rw[if_neg h1',if_neg h23,if_neg hi',if_pos (.inr (by simp at hb; omega))],hx2⟩
  have hab : ¬ (256 < H8 (szs m c.pts)∨256 < c.excl.length):=by simp at ha hb; omega
  simp -implicitDefEqProofs only[vQ,BD,I5,↓reduceIte,jB,enP,QP,f3,lc2']
  refine(SQ G c.excl c.xm 89 _ (fun x => !JV (szs m c.pts) x.l) _ (by omega) fun r=>AI1 G _ _ _ r _ (CZ H' _) (by omega)).use ?_
  simp -implicitDefEqProofs only[vQ,BD,↓reduceIte]
  cases he:c.excl.any fun x => !JV (szs m c.pts) x.l
  ·simp -implicitDefEqProofs only[vQ,BD,↓reduceIte]
   exact⟨by unfold IW; rw[if_neg h1',if_neg h23,if_neg hi',if_neg hab,he]; rfl,hx2⟩
  ·simp -implicitDefEqProofs only[vQ,BD,↓reduceIte]
   exact⟨by unfold IW; rw[if_neg h1',if_neg h23,if_neg hi',if_neg hab,he]; rfl,hx2⟩
 ·rintro F H' ⟨f4,rfl,hi⟩
  simp -implicitDefEqProofs only[vQ,f4]
  exact⟨by unfold IW; rw[if_neg h1',if_neg h23,if_pos hi],hx⟩
theorem ZO (m:Mo)(l:List Int)(k:Nat)(hk:k < l.length):(szs m l)[k]? = some (IX m l[k]).length:=by
 unfold szs; rw[jY,jS hk]; rfl
theorem LG (m:Mo)(l:List Int):(szs m l).length=l.length:=by unfold szs; simp
structure Two (h H:Hp) (m:Mo) (c:Cr) (cb:Nat):Prop where
 gm:H[h.length]? = some (.live 2 [EE m])
 gc:H[cb]? = some (.live 3 [GV c])
 hx : ∃ x,H=h++x
theorem Two.lm {h H:Hp}{m:Mo}{c:Cr}{cb:Nat}(t:Two h H m c cb):D8 Tryz.prog H 22 (.ptr h.length 0 0)=some (.sl m.pm 6 (m.pts.map GI)):=by rw[DY ZB t.gm (row:=EE m) rfl,SL]
theorem Two.l0 {h H:Hp}{m:Mo}{c:Cr}{cb:Nat}(t:Two h H m c cb):D8 Tryz.prog H 9 (.ptr cb 0 0)=some (.str c.name):=by rw[DY ag9 t.gc (row:=GV c) rfl,AMY]
theorem Two.l1 {h H:Hp}{m:Mo}{c:Cr}{cb:Nat}(t:Two h H m c cb):D8 Tryz.prog H 26 (.ptr cb 0 1)=some (.sl c.pm 1 (c.pts.map qencI)):=by rw[DY KO t.gc (row:=GV c) rfl,QJ]
theorem Two.l2 {h H:Hp}{m:Mo}{c:Cr}{cb:Nat}(t:Two h H m c cb):D8 Tryz.prog H 67 (.ptr cb 0 2)=some (.sl c.xm 1 (c.excl.map encL)):=by rw[DY UE t.gc (row:=GV c) rfl,ASA]
theorem Two.mk' (h:Hp)(m:Mo)(c:Cr):Two h (h++[.live 2 [EE m]]++[.live 3 [GV c]]) m c (h++[ABlk.live 2 [EE m]]).length:=⟨CX (CZ _ _),CZ _ _,⟨_,zH _ _ _⟩⟩
theorem XQ (G:Nat→AV)(m:Mo)(c:Cr)(h:Hp)(hh:Here m c.pts)(hf:Full m)(hl:c.pts.length≤1048576):PCall (En G) 96 [.agg (EE m),.agg (GV c)] h (.int .i64 (min (H8 (szs m c.pts)) 1000)):=by
 refine ACalls.pure0 rfl ?_
 refine acN Tryz.func96 rfl ?_
 show awp _ _ _ _ _ (EM _ [.tmp 4] _)
 have t:=Two.mk' h m c
 simp -implicitDefEqProofs only[vQ,BD,↓reduceIte,jB,enP,bxM,bxC]
 generalize h++[ABlk.live 2 [EE m]]++[ABlk.live 3 [GV c]]=H at t ⊢
 generalize (h++[ABlk.live 2 [EE m]]).length=cb at t ⊢
 have hs:=hf.szs hh
 refine GZ 0 (fun F H'=>(F 5 = .int .i64 (H8 (szs m c.pts):Nat)∨∃ n:Nat,1000≤n∧n≤H8 (szs m c.pts)∧F 5 = .int .i64 n)∧H'=H) (fun _ _=>False) ?_ ?_ (fun _ _ hh=>hh.elim)
 ·refine DL (fun n F H' => ∃ k,n+k=c.pts.length∧F 2 = .ptr h.length 0 0∧F 3 = .ptr cb 0 0∧F 5 = .int .i64 (H8 ((szs m c.pts).take k):Nat)∧F 6 = .int .i64 (k:Nat)∧H'=H) c.pts.length ⟨0,by simp,by simp -implicitDefEqProofs only[AA,↓reduceIte,jB],by simp -implicitDefEqProofs only[AA,↓reduceIte,jB],by simp -implicitDefEqProofs only[AA,↓reduceIte,jB]; rfl,by simp -implicitDefEqProofs only[AA,↓reduceIte]; rfl,rfl⟩ ?_
  rintro n F H' ⟨k,hk,f2,f3,f5,f6,rfl⟩
  simp -implicitDefEqProofs only[vQ,CP,BD,↓reduceIte,jB,enP,IZ,JH,f3,f6,t.l1,jH]
  refine I4 (fun ha => ?_) (fun ha => ?_)
  ·have hk':k < c.pts.length:=by simpa using ha
   simp -implicitDefEqProofs only[vQ,CP,BD,↓reduceIte,jB,enP,ha,f5]
   refine CU (fun hb => ?_) (fun hb => ?_)
   ·have hb':H8 ((szs m c.pts).take k) < 1000:=by simp at hb; omega
    obtain⟨s,ls⟩:=hh.ld hk' H'
    have hks:k < (szs m c.pts).length:=by rw[LG]; exact hk'
    have hgt:(szs m c.pts)[k]=(IX m c.pts[k]).length:=IC (ZO m c.pts k hk')
    have h64:=(hs _ (jP hks)).2
    rw[hgt] at h64
    have hpt:=YX (szs m c.pts) k hks
    rw[hgt] at hpt
    have hmul:H8 ((szs m c.pts).take k) * (IX m c.pts[k]).length≤1000 * 64:=Nat.mul_le_mul (by omega) h64
    have hw:IntKind.i64.wrap ((H8 ((szs m c.pts).take k):Int) * ((IX m c.pts[k]).length:Int))=((H8 ((szs m c.pts).take (k+1)):Nat):Int):=by
     rw[hpt,← Int.natCast_mul,LQ (by omega)]
    simp -implicitDefEqProofs only[vQ]
    refine EY (by kernel_rfl) ?_
    simp -implicitDefEqProofs only[vQ,BD,OJ,↓reduceIte,jB,jM,enP,PG,GU,IB,PE,IE,JH,f2,f3,f5,f6,t.lm,t.l1,DN hk',CY ag3 hk',encI0,hh.ix hk',ls,jH,hw,wrap_succ (show k < 9223372036854775807 by omega)]
    exact⟨n - 1,by omega,k+1,by omega,trivial,trivial,rfl,rfl,trivial⟩
   ·simp -implicitDefEqProofs only[vQ,↓reduceIte,jB]
    exact⟨.inr ⟨_,by simp at hb; omega,AED _ _ (fun n hn=>(hs n hn).1),f5⟩,trivial⟩
  ·have hk' : ¬ k < c.pts.length:=by simpa using ha
   simp -implicitDefEqProofs only[vQ,CP,BD,EW,↓reduceIte,jB,ha]
   refine⟨.inl ?_,trivial⟩
   rw[jW (by rw[LG]; omega)] at f5
   exact f5
 ·rintro F H' ⟨f5,rfl⟩
  rcases f5 with f5 | ⟨n,h1,h2,f5⟩
  ·simp -implicitDefEqProofs only[vQ,BD,AQM,AI6,↓reduceIte,f5]
   exact⟨trivial,t.hx⟩
  ·simp -implicitDefEqProofs only[vQ,BD,AQM,AI6,↓reduceIte,f5]
   exact⟨by congr 1; omega,t.hx⟩
def placed (m:Mo)(c:Cr):Bool:=decide (2≤c.pts.length) && decide (c.pts.length≤4) && WV m.pts.length none c.pts
theorem AOO (G:Nat→AV)(m:Mo)(c:Cr)(h:Hp)(hl:c.pts.length≤1048576):PCall (En G) 95 [.agg (EE m),.agg (GV c)] h (.bool (placed m c)):=by
 refine ACalls.pure0 rfl ?_
 refine acN Tryz.func95 rfl ?_
 show awp _ _ _ _ _ (EM _ [.tmp 4] _)
 have t:=Two.mk' h m c
 simp -implicitDefEqProofs only[vQ,BD,↓reduceIte,jB,enP,JH,bxM,bxC]
 generalize h++[ABlk.live 2 [EE m]]++[ABlk.live 3 [GV c]]=H at t ⊢
 generalize (h++[ABlk.live 2 [EE m]]).length=cb at t ⊢
 simp -implicitDefEqProofs only[vQ,CP,BD,↓reduceIte,enP,IZ,t.l1,jH]
 refine I4 (fun h2 => ?_) (fun h2 => ?_)
 ·simp -implicitDefEqProofs only[vQ,CP,BD,EW,↓reduceIte,jB,h2]
  have:decide (2≤c.pts.length)=false:=by simp at h2 ⊢; omega
  exact⟨by unfold placed; rw[this]; rfl,t.hx⟩
 have d2:decide (2≤c.pts.length)=true:=by simp at h2 ⊢; omega
 simp -implicitDefEqProofs only[vQ,CP,BD,↓reduceIte,jB,enP,IZ,JH,h2,t.l1,jH]
 refine CU (fun h3 => ?_) (fun h3 => ?_)
 ·simp -implicitDefEqProofs only[vQ,BD,↓reduceIte]
  have:decide (c.pts.length≤4)=false:=by simp at h3 ⊢; omega
  exact⟨by unfold placed; rw[this]; simp,t.hx⟩
 have d3:decide (c.pts.length≤4)=true:=by simp at h3 ⊢; omega
 have hpl:placed m c=WV m.pts.length none c.pts:=by unfold placed; rw[d2,d3]; rfl
 rw[hpl]
 simp -implicitDefEqProofs only[vQ,BD]
 refine DL (fun n F H' => ∃ k,n+k=c.pts.length∧F 2 = .ptr h.length 0 0∧F 3 = .ptr cb 0 0∧F 5 = .int .i64 (k:Nat)∧H'=H∧WV m.pts.length none c.pts=WV m.pts.length (prev c.pts k) (c.pts.drop k)) c.pts.length ⟨0,by simp,by simp -implicitDefEqProofs only[AA,↓reduceIte,jB],by simp -implicitDefEqProofs only[AA,↓reduceIte,jB],by simp -implicitDefEqProofs only[AA,↓reduceIte]; rfl,rfl,rfl⟩ ?_
 rintro n F H' ⟨k,hk,f2,f3,f5,rfl,hi⟩
 simp -implicitDefEqProofs only[vQ,BD,↓reduceIte,jB,enP,IZ,JH,f3,f5,t.l1,jH]
 refine CU (fun hlt => ?_) (fun hlt => ?_)
 ·have hk':k < c.pts.length:=by simpa using hlt
  rw[AHW _ _ _ hk'] at hi
  simp -implicitDefEqProofs only[vQ]
  refine EY (by kernel_rfl) ?_
  simp -implicitDefEqProofs only[vQ,CP,↓reduceIte,jB,jM,enP,IB,JH,f2,f3,f5,t.l1,DN hk',CY ag3 hk',encI0]
  refine AIM (fun ha => ?_) (fun ha => ?_)
  ·simp -implicitDefEqProofs only[vQ,AA4,A2C,CP,BD,EW,↓reduceIte,jB,jM,ha]
   have:decide (0≤c.pts[k])=false:=by simp at ha ⊢; omega
   exact⟨by rw[hi,this]; rfl,t.hx⟩
  have ha':decide (0≤c.pts[k])=true:=by simp at ha ⊢; omega
  simp -implicitDefEqProofs only[vQ,SY,CP,↓reduceIte,jB,jM,enP,OE,GU,IB,JH,ha,f2,f3,f5,t.lm,t.l1,DN hk',CY ag3 hk',encI0,jH]
  refine AIM (fun hb => ?_) (fun hb => ?_)
  ·simp -implicitDefEqProofs only[vQ,AA4,A2C,CP,BD,EW,↓reduceIte,jB,jM,hb]
   have:decide (c.pts[k] < (m.pts.length:Int))=false:=by simp at hb ⊢; omega
   exact⟨by rw[hi,this,ha']; rfl,t.hx⟩
  have hb':decide (c.pts[k] < (m.pts.length:Int))=true:=by simp at hb ⊢; omega
  rw[ha',hb'] at hi
  simp only[qF] at hi
  cases k with
  | zero =>
    have hz:decide ((((0:Nat):Int)) > 0)=false:=by decide
    simp -implicitDefEqProofs only[vQ,SY,AA3,CP,BD,EW,↓reduceIte,jB,jM,enP,hb,hz,f5,wrap_succ (show 0 < 9223372036854775807 by omega)]
    exact⟨n - 1,by omega,1,by omega,f2,f3,rfl,trivial,by rw[hi]; rfl⟩
  | succ k =>
    have hz:decide ((((k+1:Nat):Int)) > 0)=true:=by simp
    have hw:IntKind.i64.wrap (((k+1:Nat):Int) - 1)=(k:Int):=by rw[wrap_i64 (by omega) (by omega)]; omega
    have hk2:k < c.pts.length:=by omega
    have hpv:prev c.pts (k+1)=some c.pts[k]:=by unfold prev; exact jS hk2
    rw[hpv] at hi
    simp -implicitDefEqProofs only[vQ,QN,SY,CP,↓reduceIte,jB,jM,enP,IB,JH,hb,hz,f3,f5,t.l1,hw,DN hk',DN hk2,CY ag3 hk',CY ag3 hk2,encI0]
    refine CU (fun hd => ?_) (fun hd => ?_)
    ·simp -implicitDefEqProofs only[vQ,BD,↓reduceIte]
     have:decide (c.pts[k] < c.pts[k+1])=false:=by simp at hd ⊢; omega
     exact⟨by rw[hi]; simp only[this]; rfl,t.hx⟩
    ·simp -implicitDefEqProofs only[vQ,BD,↓reduceIte,jB,enP,f5,wrap_succ (show k+1 < 9223372036854775807 by omega)]
     have:decide (c.pts[k] < c.pts[k+1])=true:=by simp at hd ⊢; omega
     exact⟨n - 1,by omega,k+1+1,by omega,f2,f3,rfl,trivial,by rw[hi]; simp only[this]; rfl⟩
 ·have hk' : ¬ k < c.pts.length:=by simpa using hlt
  simp -implicitDefEqProofs only[vQ,BD,↓reduceIte]
  exact⟨by rw[hi,jV (by omega)]; rfl,t.hx⟩
theorem AC3 (G:Nat→AV)(m:Mo)(c:Cr)(x:Is)(h:Hp)(hh:Here m c.pts)(hl:c.pts.length≤1048576):PCall (En G) 97 [.agg (EE m),.agg (GV c),.sl x.m 1 (x.l.map qencI)] h (.bool (JV (szs m c.pts) x.l)):=by
 refine ACalls.pure0 rfl ?_
 refine acN Tryz.func97 rfl ?_
 show awp _ _ _ _ _ (EM _ [.tmp 6] _)
 have t:=Two.mk' h m c
 simp -implicitDefEqProofs only[vQ,BD,↓reduceIte,jB,enP,IZ,JH,bxM,bxC]
 generalize h++[ABlk.live 2 [EE m]]++[ABlk.live 3 [GV c]]=H at t ⊢
 generalize (h++[ABlk.live 2 [EE m]]).length=cb at t ⊢
 simp -implicitDefEqProofs only[vQ,BD,↓reduceIte,jB,enP,IZ,t.l1,jH]
 refine CU (fun h2 => ?_) (fun h2 => ?_)
 ·simp -implicitDefEqProofs only[vQ,BD,↓reduceIte]
  have:JV (szs m c.pts) x.l=false:=by
   rw[← Bool.not_eq_true]; intro e
   have:=MR e
   rw[LG] at this
   simp at h2; omega
  exact⟨by rw[this],t.hx⟩
 have hlen:x.l.length=c.pts.length:=by simp at h2; omega
 simp -implicitDefEqProofs only[vQ,BD]
 refine DL (fun n F H' => ∃ k,n+k=x.l.length∧F 2 = .sl x.m 1 (x.l.map qencI)∧F 3 = .ptr h.length 0 0∧F 4 = .ptr cb 0 0∧F 7 = .int .i64 (k:Nat)∧H'=H∧JV (szs m c.pts) x.l=JV ((szs m c.pts).drop k) (x.l.drop k)) x.l.length ⟨0,by simp,by simp -implicitDefEqProofs only[vQ,↓reduceIte,jB],by simp -implicitDefEqProofs only[AA,↓reduceIte,jB],by simp -implicitDefEqProofs only[AA,↓reduceIte,jB],by simp -implicitDefEqProofs only[AA,↓reduceIte]; rfl,rfl,rfl⟩ ?_
 rintro n F H' ⟨k,hk,f2,f3,f4,f7,rfl,hi⟩
 simp -implicitDefEqProofs only[vQ,BD,↓reduceIte,jB,enP,IZ,f2,f7,jH]
 refine CU (fun hlt => ?_) (fun hlt => ?_)
 ·have hk':k < x.l.length:=by simpa using hlt
  have hkc:k < c.pts.length:=by omega
  have hks:k < (szs m c.pts).length:=by rw[LG]; exact hkc
  have hgt:(szs m c.pts)[k]=(IX m c.pts[k]).length:=IC (ZO m c.pts k hkc)
  rw[zK hk',zK hks,hgt] at hi
  obtain⟨s,ls⟩:=hh.ld hkc H'
  simp -implicitDefEqProofs only[vQ]
  refine EY (by kernel_rfl) ?_
  simp -implicitDefEqProofs only[vQ,CP,↓reduceIte,jB,jM,enP,IB,f2,f3,f4,f7,DN hk',CY ag3 hk',encI0]
  refine AIM (fun ha => ?_) (fun ha => ?_)
  ·simp -implicitDefEqProofs only[vQ,AA4,CP,BD,EW,↓reduceIte,jB,jM,ha]
   have:decide (0≤x.l[k])=false:=by simp at ha ⊢; omega
   exact⟨by rw[hi]; unfold JV; rw[this]; rfl,t.hx⟩
  have h0:decide (0≤x.l[k])=true:=by simp at ha ⊢; omega
  simp -implicitDefEqProofs only[vQ,SY,CP,↓reduceIte,jB,jM,enP,PG,GU,IB,PE,IE,JH,ha,f2,f3,f4,f7,t.lm,t.l1,DN hk',CY ag3 hk',DN hkc,CY ag3 hkc,encI0,hh.ix hkc,ls,jH]
  refine CU (fun hd => ?_) (fun hd => ?_)
  ·simp -implicitDefEqProofs only[vQ,BD,↓reduceIte]
   have:decide (x.l[k] < ((IX m c.pts[k]).length:Int))=false:=by simp at hd ⊢; omega
   exact⟨by rw[hi]; unfold JV; rw[this,h0]; rfl,t.hx⟩
  ·simp -implicitDefEqProofs only[vQ,BD,↓reduceIte,jB,enP,f7,wrap_succ (show k < 9223372036854775807 by omega)]
   have h1:decide (x.l[k] < ((IX m c.pts[k]).length:Int))=true:=by simp at hd ⊢; omega
   refine⟨n - 1,by omega,k+1,by omega,f2,f3,f4,rfl,trivial,?_⟩
   rw[hi]
   conv=>lhs; unfold JV
   rw[h0,h1]; rfl
 ·have hk' : ¬ k < x.l.length:=by simpa using hlt
  simp -implicitDefEqProofs only[vQ,BD,↓reduceIte]
  exact⟨by rw[hi,jV (show x.l.length≤k by omega),jV (by rw[LG]; omega)]; rfl,t.hx⟩
theorem AUC (G:Nat→AV)(m:Mo)(c:Cr)(hc:CrOk c)(hf:Full m)(h:Hp):PCall (En G) 58 [.agg (EE m),.agg (GV c)] h (.int .i64 (IW m c)):=by
 refine ACalls.pure0 rfl ?_
 have hc2:=hc.pts
 have hc3:=hc.excl
 refine acN Tryz.func58 rfl ?_
 show awp _ _ _ _ _ (EM _ [.tmp 4] _)
 have t:=Two.mk' h m c
 simp -implicitDefEqProofs only[vQ,BD,↓reduceIte,jB,enP,AFD,bxM,bxC]
 generalize h++[ABlk.live 2 [EE m]]++[ABlk.live 3 [GV c]]=H at t ⊢
 generalize (h++[ABlk.live 2 [EE m]]).length=cb at t ⊢
 simp -implicitDefEqProofs only[vQ,BD,↓reduceIte,t.l0]
 refine(P6 G c.name _).use ?_
 simp -implicitDefEqProofs only[vQ,BD,↓reduceIte]
 cases h1:IM c.name
 ·simp -implicitDefEqProofs only[vQ,BD,↓reduceIte]
  exact⟨by unfold IW; rw[if_pos h1],t.hx⟩
 have h1' : ¬ IM c.name=false:=by rw[h1]; decide
 simp -implicitDefEqProofs only[vQ,BD,↓reduceIte,jB,jU,enP,ldM t.gm,ldC t.gc]
 refine(AOO G m c _ (by omega)).use ?_
 simp -implicitDefEqProofs only[vQ,BD,↓reduceIte]
 cases h2:placed m c
 ·simp -implicitDefEqProofs only[vQ,BD,↓reduceIte]
  refine⟨?_,t.hx⟩
  unfold IW; rw[if_neg h1']
  unfold placed at h2
  split
  ·rfl
  ·rename_i h3
   have d2:decide (2≤c.pts.length)=true:=by simp; omega
   have d3:decide (c.pts.length≤4)=true:=by simp; omega
   rw[d2,d3] at h2
   rw[if_pos (by simpa using h2)]
 unfold placed at h2
 simp only[jX,decide_eq_true_eq] at h2
 obtain⟨⟨h3,h4⟩,h5⟩:=h2
 have h23 : ¬ (c.pts.length < 2∨4 < c.pts.length):=by omega
 have hi' : ¬ WV m.pts.length none c.pts=false:=by rw[h5]; decide
 have hh:=XM h5
 simp -implicitDefEqProofs only[vQ,BD,↓reduceIte,jB,jU,enP,ldM t.gm,ldC t.gc]
 refine(XQ G m c _ hh hf (by omega)).use ?_
 simp -implicitDefEqProofs only[vQ,CP,BD,↓reduceIte,enP]
 refine I4 (fun ha => ?_) (fun ha => ?_)
 ·simp -implicitDefEqProofs only[vQ,CP,BD,EW,↓reduceIte,jB,ha]
  exact⟨by unfold IW; rw[if_neg h1',if_neg h23,if_neg hi',if_pos (.inl (by simp at ha; omega))],t.hx⟩
 simp -implicitDefEqProofs only[vQ,CP,BD,↓reduceIte,jB,enP,AC0,QP,ha,t.l2,jH]
 refine CU (fun hb => ?_) (fun hb => ?_)
 ·simp -implicitDefEqProofs only[vQ,BD,↓reduceIte]
  exact⟨by unfold IW; rw[if_neg h1',if_neg h23,if_neg hi',if_pos (.inr (by simp at hb; omega))],t.hx⟩
 have hab : ¬ (256 < H8 (szs m c.pts)∨256 < c.excl.length):=by simp at ha hb; omega
 have hce:IW m c=if(c.excl.any fun x => !JV (szs m c.pts) x.l) then 1 else 0:=by
  unfold IW; rw[if_neg h1',if_neg h23,if_neg hi',if_neg hab]
 simp -implicitDefEqProofs only[vQ,BD]
 refine DL (fun n F H' => ∃ k,n+k=c.excl.length∧F 2 = .ptr h.length 0 0∧F 3 = .ptr cb 0 0∧F 5 = .int .i64 (k:Nat)∧H'=H∧(c.excl.any fun x => !JV (szs m c.pts) x.l)=((c.excl.drop k).any fun x => !JV (szs m c.pts) x.l)) c.excl.length ⟨0,by simp,by simp -implicitDefEqProofs only[AA,↓reduceIte,jB],by simp -implicitDefEqProofs only[AA,↓reduceIte,jB],by simp -implicitDefEqProofs only[AA,↓reduceIte]; rfl,rfl,rfl⟩ ?_
 rintro n F H' ⟨k,hk,f2,f3,f5,rfl,hi⟩
 simp -implicitDefEqProofs only[vQ,BD,↓reduceIte,jB,enP,AC0,QP,f3,f5,t.l2,jH]
 refine CU (fun hlt => ?_) (fun hlt => ?_)
 ·have hk':k < c.excl.length:=by simpa using hlt
  have hs:=KT (fun x:Is => !JV (szs m c.pts) x.l) c.excl k hk'
  simp -implicitDefEqProofs only[vQ]
  refine EY (by kernel_rfl) ?_
  simp -implicitDefEqProofs only[vQ,AGI,↓reduceIte,jB,jM,enP,PO,QP,f2,f3,f5,ldM t.gm,ldC t.gc,t.l2,DN hk',CY KO hk',PT]
  refine⟨_,AC3 G m c c.excl[k] _ hh (by omega),?_⟩
  try simp -implicitDefEqProofs only[vQ,↓reduceIte]
  cases hx:JV (szs m c.pts) c.excl[k].l
  ·simp -implicitDefEqProofs only[vQ,BD,↓reduceIte]
   exact⟨by rw[hce,hi,hs,hx]; rfl,t.hx⟩
  ·simp -implicitDefEqProofs only[vQ,BD,↓reduceIte,jB,jU,enP,f5,wrap_succ (show k < 9223372036854775807 by omega)]
   refine⟨n - 1,by omega,k+1,by omega,f2,f3,rfl,trivial,?_⟩
   rw[hi,hs,hx]; rfl
 ·have hk' : ¬ k < c.excl.length:=by simpa using hlt
  simp -implicitDefEqProofs only[vQ,BD,↓reduceIte]
  exact⟨by rw[hce,hi,jV (by omega)]; rfl,t.hx⟩
structure MoOk (m:Mo):Prop where
 np:m.pts.length≤1048576
 nc:m.crs.length≤1048576
 pts : ∀ p∈m.pts,PtOk p
 crs : ∀ c∈m.crs,CrOk c
def FX (m:Mo):Int :=
 if 16 < m.pts.length+m.crs.length then 2 else if KC G6 m.pts≠0 then KC G6 m.pts else if PP (m.pts.map (·.name)) then 8 else
  if KC (IW m) m.crs≠0 then KC (IW m) m.crs else if PP (m.crs.map (·.name)) then 8 else 0
theorem UY {α:Type}(f:α→Int) : ∀ {xs:List α},KC f xs=0→∀ x∈xs,f x=0
 | [],_,_,hx=>by cases hx
 | y :: ys,h,x,hx=>by
   simp only[KC] at h
   split at h
   ·rename_i h0
    cases qJ.1 hx with
    | inl e=>subst e; exact h0
    | inr e=>exact UY f h x e
   ·rename_i h0; exact absurd h h0
theorem ACF {p:Pt}(h:G6 p=0):1≤p.bins.length∧p.bins.length≤64:=by
 unfold G6 at h
 split at h
 ·cases h
 ·split at h
  ·rename_i h2; exact absurd h h2
  ·split at h
   ·cases h
   ·split at h
    ·cases h
    ·omega
theorem full_of {m:Mo}(h:KC G6 m.pts=0):Full m:=fun p hp=>ACF (UY _ h p hp)
theorem A12 (h:Hp):KN Tryz.prog h 51=some (.ptr h.length 0 0,h++[.live 6 [[.str ⟨#[]⟩,.int .i64 0,.int .i64 0,.str ⟨#[]⟩,.sl .nil 0 [],.sl .nil 0 []]]]):=KD (row := [.str ⟨#[]⟩,.int .i64 0,.int .i64 0,.str ⟨#[]⟩,.sl .nil 0 [],.sl .nil 0 []]) (by kernel_rfl)
theorem AZO (h:Hp)(p:Pt)(row:List AV)(hr:row.length=6):FP Tryz.prog (h++[.live 6 [row]]) 51 (.ptr h.length 0 0) (.agg (GI p))=some (h++[.live 6 [GI p]]):=by
 rw[OW (QS (ABX p)) (by rw[JL]; exact ZP) (by rw[JL,hr]; exact jL _)]
 have:splice row 0 (GI p)=GI p:=by unfold splice; simp [JL,hr]
 rw[this]
theorem ldP {h:Hp}{b:Nat}{p:Pt}(hb:h[b]? = some (.live 6 [GI p])):D8 Tryz.prog h 51 (.ptr b 0 0)=some (.agg (GI p)):=by
 rw[IJ AC7 ZP hb rfl (by rw[JL]; exact jL 6),zU,jW (by rw[JL]; exact jL 6)]
theorem AUX (h:Hp):KN Tryz.prog h 69=some (.ptr h.length 0 0,h++[.live 3 [[.str ⟨#[]⟩,.sl .nil 0 [],.sl .nil 0 []]]]):=KD (row := [.str ⟨#[]⟩,.sl .nil 0 [],.sl .nil 0 []]) (by kernel_rfl)
theorem AST (h:Hp)(c:Cr)(row:List AV)(hr:row.length=3):FP Tryz.prog (h++[.live 3 [row]]) 69 (.ptr h.length 0 0) (.agg (GV c))=some (h++[.live 3 [GV c]]):=by
 rw[OW (QS rfl) (by rw[KH]; exact XV) (by rw[KH,hr]; exact jL _)]
 have:splice row 0 (GV c)=GV c:=by unfold splice; simp [KH,hr]
 rw[this]
theorem AEN (G:Nat→AV)(hG:GOk G)(m:Mo)(hm:MoOk m)(h:Hp):PCall (En G) 27 [.agg (EE m)] h (.int .i64 (FX m)):=by
 refine ACalls.pure0 rfl ?_
 have hm1:=hm.np
 have hm2:=hm.nc
 refine acN Tryz.func27 rfl ?_
 show awp _ _ _ _ _ (EM _ [.tmp 2] _)
 have hw:IntKind.i64.wrap ((m.pts.length:Int)+(m.crs.length:Int))=(m.pts.length:Int)+(m.crs.length:Int):=wrap_i64 (by omega) (by omega)
 simp -implicitDefEqProofs only[vQ,BD,↓reduceIte,jB,enP,OE,UU,GU,IV,bxM,DW ZB,DW AB5,SL,U2,jH,hw]
 refine CU (fun h1 => ?_) (fun h1 => ?_)
 ·simp -implicitDefEqProofs only[vQ,BD,↓reduceIte]
  exact⟨by unfold FX; rw[if_pos (by simp at h1; omega)],_,rfl⟩
 have h1' : ¬ 16 < m.pts.length+m.crs.length:=by simp at h1; omega
 have hme:FX m=if KC G6 m.pts≠0 then KC G6 m.pts else if PP (m.pts.map (·.name)) then 8 else if KC (IW m) m.crs≠0 then KC (IW m) m.crs else if PP (m.crs.map (·.name)) then 8 else 0:=by
  unfold FX; rw[if_neg h1']
 have lm0 : ∀ H:Hp,H[h.length]? = some (.live 2 [EE m])→D8 Tryz.prog H 22 (.ptr h.length 0 0)=some (.sl m.pm 6 (m.pts.map GI)):=fun H hH=>by rw[DY ZB hH (row:=EE m) rfl,SL]
 have lm1 : ∀ H:Hp,H[h.length]? = some (.live 2 [EE m])→D8 Tryz.prog H 23 (.ptr h.length 0 1)=some (.sl m.cm 3 (m.crs.map GV)):=fun H hH=>by rw[DY AB5 hH (row:=EE m) rfl,U2]
 simp -implicitDefEqProofs only[vQ,BD,↓reduceIte,jB,enP,OE,GU,DW ZB,SL,jH]
 refine GZ 0 (fun F H=>F 1 = .ptr h.length 0 0∧H[h.length]? = some (.live 2 [EE m])∧(∃ x,H=h++x)∧KC G6 m.pts=0) (fun F H=>F 2 = .int .i64 (FX m)∧∃ x,H=h++x) ?_ ?_ ?_
 ·refine DL (fun n F H => ∃ k,n+k=m.pts.length∧F 1 = .ptr h.length 0 0∧F 18 = .sl m.pm 6 (m.pts.map GI)∧F 19 = .int .i64 m.pts.length∧F 20 = .int .i64 (k:Nat)∧H[h.length]? = some (.live 2 [EE m])∧(∃ x,H=h++x)∧KC G6 m.pts=KC G6 (m.pts.drop k)) m.pts.length ⟨0,by simp,by simp -implicitDefEqProofs only[AA,↓reduceIte,jB],by simp -implicitDefEqProofs only[AA,↓reduceIte,jB],by simp -implicitDefEqProofs only[AA,↓reduceIte,jB],by simp -implicitDefEqProofs only[AA,↓reduceIte]; rfl,CZ _ _,⟨_,rfl⟩,rfl⟩ ?_
  rintro n F H ⟨k,hk,f1,f18,f19,f20,hb,⟨x,hx⟩,hf⟩
  simp -implicitDefEqProofs only[vQ,BD,↓reduceIte,enP,f19,f20]
  refine CU (fun hc => ?_) (fun hc => ?_)
  ·have hk':k < m.pts.length:=by simpa using hc
   have hs:=O4 G6 m.pts k hk'
   simp -implicitDefEqProofs only[vQ,BD,↓reduceIte,jB,enP,PG,jT,f18,f20,DN hk',FU AC7 ZP JL hk',A12,AZO _ _ [.str ⟨#[]⟩,.int .i64 0,.int .i64 0,.str ⟨#[]⟩,.sl .nil 0 [],.sl .nil 0 []] rfl,ldP (CZ H (.live 6 [GI m.pts[k]]))]
   refine(AEF G hG m.pts[k] (hm.pts _ (jP hk')) _).use ?_
   simp -implicitDefEqProofs only[vQ,BD,↓reduceIte,enP]
   refine CU (fun hv => ?_) (fun hv => ?_)
   ·simp -implicitDefEqProofs only[vQ,BD,↓reduceIte,jB]
    have hv':G6 m.pts[k]≠0:=by simpa using hv
    have:KC G6 m.pts=G6 m.pts[k]:=by rw[hf,hs,if_neg hv']
    exact⟨by rw[hme,this,if_pos hv'],x++_,by rw[hx,zH]⟩
   ·have hv':G6 m.pts[k]=0:=by simpa using hv
    simp -implicitDefEqProofs only[vQ,BD,↓reduceIte,jB,enP,f20,wrap_succ (show k < 9223372036854775807 by omega)]
    exact⟨n - 1,by omega,k+1,by omega,f1,f18,f19,rfl,CX hb,⟨x++_,by rw[hx,zH]⟩,by rw[hf,hs,if_pos hv']⟩
  ·have hk' : ¬ k < m.pts.length:=by simpa using hc
   simp -implicitDefEqProofs only[vQ,↓reduceIte,jB]
   exact⟨f1,hb,⟨x,hx⟩,by rw[hf,jV (by omega)]; rfl⟩
 ·rintro F H ⟨f1,hb,hx0,hf⟩
  have hfull:=full_of hf
  rw[hf,if_neg (fun hh=>hh rfl)] at hme
  simp -implicitDefEqProofs only[vQ,BD,↓reduceIte,enP,GU,f1,lm0 _ hb]
  refine(AS7 G m.pts m.pm H (by omega)).use ?_
  simp -implicitDefEqProofs only[vQ,↓reduceIte]
  cases hd:PP (m.pts.map (·.name))
  case true =>
   simp -implicitDefEqProofs only[vQ,BD,↓reduceIte]
   exact⟨by rw[hme,hd]; rfl,hx0⟩
  rw[hd] at hme
  simp only[zA,if_false] at hme
  simp -implicitDefEqProofs only[vQ,BD,↓reduceIte,jB,enP,UU,IV,f1,lm1 _ hb,jH]
  refine GZ 2 (fun F H=>F 1 = .ptr h.length 0 0∧H[h.length]? = some (.live 2 [EE m])∧(∃ x,H=h++x)∧KC (IW m) m.crs=0) (fun F H=>F 2 = .int .i64 (FX m)∧∃ x,H=h++x) ?_ ?_ ?_
  ·refine DL (fun n F H => ∃ k,n+k=m.crs.length∧F 1 = .ptr h.length 0 0∧F 34 = .sl m.cm 3 (m.crs.map GV)∧F 35 = .int .i64 m.crs.length∧F 36 = .int .i64 (k:Nat)∧H[h.length]? = some (.live 2 [EE m])∧(∃ x,H=h++x)∧KC (IW m) m.crs=KC (IW m) (m.crs.drop k)) m.crs.length ⟨0,by simp,by simp -implicitDefEqProofs only[AA,↓reduceIte,jB,f1],by simp -implicitDefEqProofs only[AA,↓reduceIte,jB],by simp -implicitDefEqProofs only[AA,↓reduceIte,jB],by simp -implicitDefEqProofs only[AA,↓reduceIte]; rfl,hb,hx0,rfl⟩ ?_
   clear f1 hb hx0
   rintro n F H ⟨k,hk,f1,f34,f35,f36,hb,⟨x,hx⟩,hf⟩
   simp -implicitDefEqProofs only[vQ,BD,↓reduceIte,enP,f35,f36]
   refine CU (fun hc => ?_) (fun hc => ?_)
   ·have hk':k < m.crs.length:=by simpa using hc
    have hs:=O4 (IW m) m.crs k hk'
    simp -implicitDefEqProofs only[vQ,BD,↓reduceIte,jB,enP,P5,jT,f1,f34,f36,DN hk',FU AAZ XV KH hk',AUX,AST _ _ [.str ⟨#[]⟩,.sl .nil 0 [],.sl .nil 0 []] rfl,ldC (CZ H (.live 3 [GV m.crs[k]])),ldM (CX (x := .live 3 [GV m.crs[k]]) hb)]
    refine(APK G hG m m.crs[k] (hm.crs _ (jP hk')) hfull _).use ?_
    simp -implicitDefEqProofs only[vQ,BD,↓reduceIte,enP]
    refine CU (fun hv => ?_) (fun hv => ?_)
    ·simp -implicitDefEqProofs only[vQ,BD,↓reduceIte,jB]
     have hv':IW m m.crs[k]≠0:=by simpa using hv
     have:KC (IW m) m.crs=IW m m.crs[k]:=by rw[hf,hs,if_neg hv']
     exact⟨by rw[hme,this,if_pos hv'],x++_,by rw[hx,zH]⟩
    ·have hv':IW m m.crs[k]=0:=by simpa using hv
     simp -implicitDefEqProofs only[vQ,BD,↓reduceIte,jB,enP,f36,wrap_succ (show k < 9223372036854775807 by omega)]
     exact⟨n - 1,by omega,k+1,by omega,f1,f34,f35,rfl,CX hb,⟨x++_,by rw[hx,zH]⟩,by rw[hf,hs,if_pos hv']⟩
   ·have hk' : ¬ k < m.crs.length:=by simpa using hc
    simp -implicitDefEqProofs only[vQ,↓reduceIte,jB]
    exact⟨f1,hb,⟨x,hx⟩,by rw[hf,jV (by omega)]; rfl⟩
  ·rintro F H ⟨f1,hb,hx,hf⟩
   rw[hf,if_neg (fun hh=>hh rfl)] at hme
   simp -implicitDefEqProofs only[vQ,BD,↓reduceIte,enP,IV,f1,lm1 _ hb]
   refine(AS8 G m.crs m.cm H (by omega)).use ?_
   simp -implicitDefEqProofs only[vQ,↓reduceIte]
   cases hd:PP (m.crs.map (·.name))
   ·simp -implicitDefEqProofs only[vQ,BD,↓reduceIte]
    exact⟨by rw[hme,hd]; rfl,hx⟩
   ·simp -implicitDefEqProofs only[vQ,BD,↓reduceIte]
    exact⟨by rw[hme,hd]; rfl,hx⟩
  ·rintro F H ⟨f2,hx⟩
   simp -implicitDefEqProofs only[vQ,f2]
   exact⟨trivial,hx⟩
 ·rintro F H ⟨f2,hx⟩
  simp -implicitDefEqProofs only[vQ,f2]
  exact⟨trivial,hx⟩
theorem RH (G:Nat→AV)(m:Mo)(hm:MoOk m)(h:Hp):PCall (En G) 29 [.agg (EE m)] h (.int .i64 (FX m)):=by
 refine ACalls.pure0 rfl ?_
 have hm1:=hm.np
 have hm2:=hm.nc
 refine acN Tryz.func29 rfl ?_
 show awp _ _ _ _ _ (EM _ [.tmp 2] _)
 have hw:IntKind.i64.wrap ((m.pts.length:Int)+(m.crs.length:Int))=(m.pts.length:Int)+(m.crs.length:Int):=wrap_i64 (by omega) (by omega)
 have gm:=CZ h (.live 2 [EE m])
 have hx : ∃ x,h++[ABlk.live 2 [EE m]]=h++x:=⟨_,rfl⟩
 simp -implicitDefEqProofs only[vQ,BD,↓reduceIte,jB,enP,GU,bxM]
 generalize h++[ABlk.live 2 [EE m]]=H at gm hx ⊢
 have lm0:D8 Tryz.prog H 22 (.ptr h.length 0 0)=some (.sl m.pm 6 (m.pts.map GI)):=by rw[DY ZB gm (row:=EE m) rfl,SL]
 have lm1:D8 Tryz.prog H 23 (.ptr h.length 0 1)=some (.sl m.cm 3 (m.crs.map GV)):=by rw[DY AB5 gm (row:=EE m) rfl,U2]
 simp -implicitDefEqProofs only[vQ,BD,↓reduceIte,jB,enP,OE,UU,IV,lm0,lm1,jH,hw]
 refine CU (fun h1 => ?_) (fun h1 => ?_)
 ·simp -implicitDefEqProofs only[vQ,BD,↓reduceIte]
  exact⟨by unfold FX; rw[if_pos (by simp at h1; omega)],hx⟩
 have h1' : ¬ 16 < m.pts.length+m.crs.length:=by simp at h1; omega
 have hme:FX m=if KC G6 m.pts≠0 then KC G6 m.pts else if PP (m.pts.map (·.name)) then 8 else if KC (IW m) m.crs≠0 then KC (IW m) m.crs else if PP (m.crs.map (·.name)) then 8 else 0:=by
  unfold FX; rw[if_neg h1']
 simp -implicitDefEqProofs only[vQ,BD]
 refine GZ 0 (fun F H'=>F 1 = .ptr h.length 0 0∧H'=H∧KC G6 m.pts=0) (fun F H'=>F 2 = .int .i64 (FX m)∧H'=H) ?_ ?_ ?_
 ·refine DL (fun n F H' => ∃ k,n+k=m.pts.length∧F 1 = .ptr h.length 0 0∧F 3 = .int .i64 (k:Nat)∧H'=H∧KC G6 m.pts=KC G6 (m.pts.drop k)) m.pts.length ⟨0,by simp,by simp -implicitDefEqProofs only[AA,↓reduceIte,jB],by simp -implicitDefEqProofs only[AA,↓reduceIte]; rfl,rfl,rfl⟩ ?_
  rintro n F H' ⟨k,hk,f1,f3,rfl,hf⟩
  simp -implicitDefEqProofs only[vQ,BD,↓reduceIte,jB,enP,OE,GU,f1,f3,lm0,jH]
  refine CU (fun hc => ?_) (fun hc => ?_)
  ·have hk':k < m.pts.length:=by simpa using hc
   have hs:=O4 G6 m.pts k hk'
   simp -implicitDefEqProofs only[vQ,BD,↓reduceIte,jB,enP,PG,GU,f1,f3,lm0,DN hk',FU AC7 ZP JL hk']
   refine(AHL G m.pts[k] (hm.pts _ (jP hk')) _).use ?_
   simp -implicitDefEqProofs only[vQ,BD,↓reduceIte,enP]
   refine CU (fun hv => ?_) (fun hv => ?_)
   ·simp -implicitDefEqProofs only[vQ,BD,↓reduceIte,jB]
    have hv':G6 m.pts[k]≠0:=by simpa using hv
    have:KC G6 m.pts=G6 m.pts[k]:=by rw[hf,hs,if_neg hv']
    exact⟨by rw[hme,this,if_pos hv'],trivial⟩
   ·have hv':G6 m.pts[k]=0:=by simpa using hv
    simp -implicitDefEqProofs only[vQ,BD,↓reduceIte,jB,enP,f3,wrap_succ (show k < 9223372036854775807 by omega)]
    exact⟨n - 1,by omega,k+1,by omega,f1,rfl,trivial,by rw[hf,hs,if_pos hv']⟩
  ·have hk' : ¬ k < m.pts.length:=by simpa using hc
   simp -implicitDefEqProofs only[vQ,↓reduceIte,jB]
   exact⟨f1,trivial,by rw[hf,jV (by omega)]; rfl⟩
 ·rintro F H' ⟨f1,rfl,hf⟩
  have hfull:=full_of hf
  rw[hf,if_neg (fun hh=>hh rfl)] at hme
  simp -implicitDefEqProofs only[vQ,BD,↓reduceIte,f1]
  refine GZ 2 (fun F H=>F 1 = .ptr h.length 0 0∧H=H'∧PP (m.pts.map (·.name))=false) (fun F H=>F 2 = .int .i64 (FX m)∧H=H') ?_ ?_ ?_
  ·generalize hN:m.pts.map (·.name)=N at hme ⊢
   have hNl:N.length=m.pts.length:=by rw[← hN]; simp
   have hNi : ∀ i (hi:i < m.pts.length),N[i]? = some m.pts[i].name:=fun i hi=>by rw[← hN,jY,jS hi]; rfl
   refine DL (fun n F H => ∃ i,n+i=m.pts.length∧F 1 = .ptr h.length 0 0∧F 5 = .int .i64 (i:Nat)∧H=H'∧PP N=AGX (N.take i) (N.drop i)) m.pts.length ⟨0,by simp,by simp -implicitDefEqProofs only[AA,↓reduceIte,jB,f1],by simp -implicitDefEqProofs only[AA,↓reduceIte]; rfl,rfl,rfl⟩ ?_
   clear f1
   rintro n F H' ⟨i,hi,f1,f5,rfl,hd⟩
   simp -implicitDefEqProofs only[vQ,BD,↓reduceIte,jB,enP,OE,GU,f1,f5,lm0,jH]
   refine CU (fun hc => ?_) (fun hc => ?_)
   ·have hi':i < m.pts.length:=by simpa using hc
    have hdrop:=RQ N i (by omega)
    rw[IC (hNi i hi')] at hdrop
    simp -implicitDefEqProofs only[vQ,BD,f5]
    refine GZ 4 (fun F' H=>F' 1 = .ptr h.length 0 0∧F' 5 = .int .i64 (i:Nat)∧H=H'∧JG (N.take i) m.pts[i].name=false) (fun F' H=>F' 2 = .int .i64 8∧H=H'∧PP N=true) ?_ ?_ ?_
    ·refine DL (fun n F' H => ∃ k,n+k=i∧F' 1 = .ptr h.length 0 0∧F' 5 = .int .i64 (i:Nat)∧F' 6 = .int .i64 (k:Nat)∧H=H'∧JG (N.take i) m.pts[i].name=JG ((N.take i).drop k) m.pts[i].name) i ⟨0,by simp,by simp -implicitDefEqProofs only[AA,↓reduceIte,jB,f1],by simp -implicitDefEqProofs only[AA,↓reduceIte,jB,f5],by simp -implicitDefEqProofs only[AA,↓reduceIte]; rfl,rfl,rfl⟩ ?_
     clear f1 f5
     rintro n' F H' ⟨k,hk,f1,f5,f6,rfl,hin⟩
     simp -implicitDefEqProofs only[vQ,BD,↓reduceIte,jB,enP,f5,f6]
     refine CU (fun hc => ?_) (fun hc => ?_)
     ·have hk':k < i:=by simpa using hc
      have hk2:k < m.pts.length:=by omega
      have hs:=KT (fun u=>m.pts[i].name.toList == u.toList) (N.take i) k (by rw[zJ]; omega)
      have hx:(N.take i)[k]'(by rw[zJ]; omega)=m.pts[k].name:=by
       rw[List.getElem_take]; exact IC (hNi k hk2)
      rw[hx] at hs
      simp -implicitDefEqProofs only[vQ]
      refine EY (by kernel_rfl) ?_
      simp -implicitDefEqProofs only[vQ,LV,↓reduceIte,jB,jM,enP,PG,GU,AFF,f1,f5,f6,lm0,DN hi',DN hk2,CY ag9 hi',CY ag9 hk2,AMW]
      refine CU (fun hb => ?_) (fun hb => ?_)
      ·simp -implicitDefEqProofs only[vQ,BD,↓reduceIte]
       have:JG (N.take i) m.pts[i].name=true:=by
        rw[hin]; unfold JG; rw[hs,BEq.comm,hb]; rfl
       exact⟨trivial,trivial,by rw[hd,hdrop,this]; rfl⟩
      ·simp -implicitDefEqProofs only[vQ,BD,↓reduceIte,jB,enP,f6,wrap_succ (show k < 9223372036854775807 by omega)]
       refine⟨n' - 1,by omega,k+1,by omega,f1,f5,rfl,trivial,?_⟩
       rw[hin]; unfold JG; rw[hs,BEq.comm,hb]; rfl
     ·have hk' : ¬ k < i:=by simpa using hc
      simp -implicitDefEqProofs only[vQ,↓reduceIte,jB]
      refine⟨f1,f5,trivial,?_⟩
      rw[hin,jV (by rw[zJ]; omega)]; rfl
    ·rintro F' H' ⟨g1,g5,rfl,hn⟩
     simp -implicitDefEqProofs only[vQ,BD,↓reduceIte,jB,enP,g5,wrap_succ (show i < 9223372036854775807 by omega)]
     refine⟨n - 1,by omega,i+1,by omega,g1,rfl,trivial,?_⟩
     rw[hd,hdrop,hn]; rfl
    ·rintro F' H' ⟨g2,rfl,hdd⟩
     simp -implicitDefEqProofs only[vQ,g2]
     exact⟨by rw[hme,hdd]; rfl,trivial⟩
   ·have hi' : ¬ i < m.pts.length:=by simpa using hc
    simp -implicitDefEqProofs only[vQ,↓reduceIte,jB]
    exact⟨f1,trivial,by rw[hd,jV (by omega)]; rfl⟩
  ·clear f1
   rintro F H ⟨f1,rfl,hd⟩
   rw[hd] at hme
   simp only[zA,if_false] at hme
   simp -implicitDefEqProofs only[vQ,BD,↓reduceIte]
   refine GZ 6 (fun F H'=>F 1 = .ptr h.length 0 0∧H'=H∧KC (IW m) m.crs=0) (fun F H'=>F 2 = .int .i64 (FX m)∧H'=H) ?_ ?_ ?_
   ·refine DL (fun n F H' => ∃ k,n+k=m.crs.length∧F 1 = .ptr h.length 0 0∧F 7 = .int .i64 (k:Nat)∧H'=H∧KC (IW m) m.crs=KC (IW m) (m.crs.drop k)) m.crs.length ⟨0,by simp,by simp -implicitDefEqProofs only[AA,↓reduceIte,jB,f1],by simp -implicitDefEqProofs only[AA,↓reduceIte]; rfl,rfl,rfl⟩ ?_
    clear f1
    rintro n F H' ⟨k,hk,f1,f7,rfl,hf⟩
    simp -implicitDefEqProofs only[vQ,BD,↓reduceIte,jB,enP,UU,IV,f1,f7,lm1,jH]
    refine CU (fun hc => ?_) (fun hc => ?_)
    ·have hk':k < m.crs.length:=by simpa using hc
     have hs:=O4 (IW m) m.crs k hk'
     simp -implicitDefEqProofs only[vQ]
     refine EY (by kernel_rfl) ?_
     simp -implicitDefEqProofs only[vQ,BD,↓reduceIte,jB,jM,enP,P5,IV,f1,f7,lm1,ldM gm,DN hk',FU AAZ XV KH hk']
     refine⟨_,AUC G m m.crs[k] (hm.crs _ (jP hk')) hfull _,?_⟩
     try simp -implicitDefEqProofs only[vQ,↓reduceIte]
     refine CU (fun hv => ?_) (fun hv => ?_)
     ·simp -implicitDefEqProofs only[vQ,BD,↓reduceIte,jB]
      have hv':IW m m.crs[k]≠0:=by simpa using hv
      have:KC (IW m) m.crs=IW m m.crs[k]:=by rw[hf,hs,if_neg hv']
      exact⟨by rw[hme,this,if_pos hv'],trivial⟩
     ·have hv':IW m m.crs[k]=0:=by simpa using hv
      simp -implicitDefEqProofs only[vQ,BD,↓reduceIte,jB,enP,f7,wrap_succ (show k < 9223372036854775807 by omega)]
      exact⟨n - 1,by omega,k+1,by omega,f1,rfl,trivial,by rw[hf,hs,if_pos hv']⟩
    ·have hk' : ¬ k < m.crs.length:=by simpa using hc
     simp -implicitDefEqProofs only[vQ,↓reduceIte,jB]
     exact⟨f1,trivial,by rw[hf,jV (by omega)]; rfl⟩
   ·rintro F H' ⟨f1,rfl,hf⟩
    rw[hf,if_neg (fun hh=>hh rfl)] at hme
    simp -implicitDefEqProofs only[vQ,BD,↓reduceIte]
    generalize hN:m.crs.map (·.name)=N at hme
    have hNl:N.length=m.crs.length:=by rw[← hN]; simp
    have hNi : ∀ i (hi:i < m.crs.length),N[i]? = some m.crs[i].name:=fun i hi=>by rw[← hN,jY,jS hi]; rfl
    refine DL (fun n F H => ∃ i,n+i=m.crs.length∧F 1 = .ptr h.length 0 0∧F 9 = .int .i64 (i:Nat)∧H=H'∧PP N=AGX (N.take i) (N.drop i)) m.crs.length ⟨0,by simp,by simp -implicitDefEqProofs only[AA,↓reduceIte,jB,f1],by simp -implicitDefEqProofs only[AA,↓reduceIte]; rfl,rfl,rfl⟩ ?_
    clear f1
    rintro n F H' ⟨i,hi,f1,f9,rfl,hd⟩
    simp -implicitDefEqProofs only[vQ,BD,↓reduceIte,jB,enP,UU,IV,f1,f9,lm1,jH]
    refine CU (fun hc => ?_) (fun hc => ?_)
    ·have hi':i < m.crs.length:=by simpa using hc
     have hdrop:=RQ N i (by omega)
     rw[IC (hNi i hi')] at hdrop
     simp -implicitDefEqProofs only[vQ,BD,f9]
     refine GZ 10 (fun F' H=>F' 1 = .ptr h.length 0 0∧F' 9 = .int .i64 (i:Nat)∧H=H'∧JG (N.take i) m.crs[i].name=false) (fun F' H=>F' 2 = .int .i64 8∧H=H'∧PP N=true) ?_ ?_ ?_
     ·refine DL (fun n F' H => ∃ k,n+k=i∧F' 1 = .ptr h.length 0 0∧F' 9 = .int .i64 (i:Nat)∧F' 10 = .int .i64 (k:Nat)∧H=H'∧JG (N.take i) m.crs[i].name=JG ((N.take i).drop k) m.crs[i].name) i ⟨0,by simp,by simp -implicitDefEqProofs only[AA,↓reduceIte,jB,f1],by simp -implicitDefEqProofs only[AA,↓reduceIte,jB,f9],by simp -implicitDefEqProofs only[AA,↓reduceIte]; rfl,rfl,rfl⟩ ?_
      clear f1 f9
      rintro n' F H' ⟨k,hk,f1,f9,f10,rfl,hin⟩
      simp -implicitDefEqProofs only[vQ,BD,↓reduceIte,jB,enP,f9,f10]
      refine CU (fun hc => ?_) (fun hc => ?_)
      ·have hk':k < i:=by simpa using hc
       have hk2:k < m.crs.length:=by omega
       have hs:=KT (fun u=>m.crs[i].name.toList == u.toList) (N.take i) k (by rw[zJ]; omega)
       have hx:(N.take i)[k]'(by rw[zJ]; omega)=m.crs[k].name:=by
        rw[List.getElem_take]; exact IC (hNi k hk2)
       rw[hx] at hs
       simp -implicitDefEqProofs only[vQ]
       refine EY (by kernel_rfl) ?_
       simp -implicitDefEqProofs only[vQ,LV,↓reduceIte,jB,jM,enP,P5,IV,AFD,f1,f9,f10,lm1,DN hi',DN hk2,CY ag9 hi',CY ag9 hk2,AMY]
       refine CU (fun hb => ?_) (fun hb => ?_)
       ·simp -implicitDefEqProofs only[vQ,BD,↓reduceIte]
        have:JG (N.take i) m.crs[i].name=true:=by
         rw[hin]; unfold JG; rw[hs,BEq.comm,hb]; rfl
        exact⟨trivial,trivial,by rw[hd,hdrop,this]; rfl⟩
       ·simp -implicitDefEqProofs only[vQ,BD,↓reduceIte,jB,enP,f10,wrap_succ (show k < 9223372036854775807 by omega)]
        refine⟨n' - 1,by omega,k+1,by omega,f1,f9,rfl,trivial,?_⟩
        rw[hin]; unfold JG; rw[hs,BEq.comm,hb]; rfl
      ·have hk' : ¬ k < i:=by simpa using hc
       simp -implicitDefEqProofs only[vQ,↓reduceIte,jB]
       refine⟨f1,f9,trivial,?_⟩
       rw[hin,jV (by rw[zJ]; omega)]; rfl
     ·rintro F' H' ⟨g1,g9,rfl,hn⟩
      simp -implicitDefEqProofs only[vQ,BD,↓reduceIte,jB,enP,g9,wrap_succ (show i < 9223372036854775807 by omega)]
      refine⟨n - 1,by omega,i+1,by omega,g1,rfl,trivial,?_⟩
      rw[hd,hdrop,hn]; rfl
     ·rintro F' H' ⟨g2,rfl,hdd⟩
      simp -implicitDefEqProofs only[vQ,g2]
      exact⟨by rw[hme,hdd]; rfl,hx⟩
    ·have hi' : ¬ i < m.crs.length:=by simpa using hc
     simp -implicitDefEqProofs only[vQ,BD,↓reduceIte]
     exact⟨by rw[hme,hd,jV (by omega)]; rfl,hx⟩
   ·rintro F H' ⟨f2,rfl⟩
    simp -implicitDefEqProofs only[vQ,f2]
    exact⟨trivial,hx⟩
  ·rintro F H ⟨f2,rfl⟩
   simp -implicitDefEqProofs only[vQ,f2]
   exact⟨trivial,hx⟩
 ·rintro F H' ⟨f2,rfl⟩
  simp -implicitDefEqProofs only[vQ,f2]
  exact⟨trivial,hx⟩
def eqL (a b:List Int):Bool:=decide (a=b)
theorem AFI {a b:List Int}{k:Nat}(ha:k < a.length)(hb:k < b.length):eqL (a.drop k) (b.drop k)=(decide (a[k]=b[k]) && eqL (a.drop (k+1)) (b.drop (k+1))):=by
 rw[zK ha,zK hb]
 unfold eqL
 rw[decide_eq_decide.2 (Iff.of_eq (List.cons.injEq _ _ _ _)),Bool.decide_and]
theorem AFH (G:Nat→AV)(a b:List Int)(s t:SM)(h:Hp)(hl:b.length≤1099511627776):PCall (En G) 92 [.sl s 1 (a.map qencI),.sl t 1 (b.map qencI)] h (.bool (eqL a b)):=by
 refine acN Tryz.func92 rfl ?_
 show awp _ _ _ _ _ (EM _ [.tmp 4] _)
 simp -implicitDefEqProofs only[vQ,BD,↓reduceIte,jB,enP,IZ,jH]
 refine CU (fun h1 => ?_) (fun h1 => ?_)
 ·simp -implicitDefEqProofs only[vQ,BD,↓reduceIte]
  have:eqL a b=false:=by
   unfold eqL; rw[decide_eq_false_iff_not]; intro e; subst e; simp at h1
  exact⟨by rw[this],trivial⟩
 have hab:a.length=b.length:=by simp at h1; omega
 simp -implicitDefEqProofs only[vQ,BD,↓reduceIte,jB,enP,IZ,jH]
 refine DL (fun n F H => ∃ k,n+k=a.length∧F 0 = .sl s 1 (a.map qencI)∧F 1 = .sl t 1 (b.map qencI)∧F 12 = .int .i64 a.length∧F 13 = .int .i64 (k:Nat)∧H=h∧eqL a b=eqL (a.drop k) (b.drop k)) a.length ⟨0,by simp,by simp -implicitDefEqProofs only[vQ,↓reduceIte,jB],by simp -implicitDefEqProofs only[vQ,↓reduceIte,jB],by simp -implicitDefEqProofs only[AA,↓reduceIte,jB],by simp -implicitDefEqProofs only[AA,↓reduceIte]; rfl,rfl,rfl⟩ ?_
 rintro n F H ⟨k,hk,f0,f1,f12,f13,rfl,hi⟩
 simp -implicitDefEqProofs only[vQ,BD,↓reduceIte,enP,f12,f13]
 refine CU (fun hc => ?_) (fun hc => ?_)
 ·have hk':k < a.length:=by simpa using hc
  have hkb:k < b.length:=by omega
  rw[AFI hk' hkb] at hi
  simp -implicitDefEqProofs only[vQ,BD,↓reduceIte,jB,f13]
  refine EY (by kernel_rfl) ?_
  simp -implicitDefEqProofs only[vQ,↓reduceIte,jB,jM,enP,IB,f0,f1,f13,DN hk',DN hkb,CY ag3 hk',CY ag3 hkb,encI0]
  refine CU (fun hd => ?_) (fun hd => ?_)
  ·simp -implicitDefEqProofs only[vQ,BD,↓reduceIte]
   have:decide (a[k]=b[k])=false:=by simpa using hd
   exact⟨by rw[hi,this]; rfl,trivial⟩
  ·simp -implicitDefEqProofs only[vQ,BD,↓reduceIte,jB,enP,f13,wrap_succ (show k < 9223372036854775807 by omega)]
   have:decide (a[k]=b[k])=true:=by simpa using hd
   exact⟨n - 1,by omega,k+1,by omega,f0,f1,f12,rfl,trivial,by rw[hi,this]; rfl⟩
 ·have hk' : ¬ k < a.length:=by simpa using hc
  simp -implicitDefEqProofs only[vQ,BD,↓reduceIte]
  exact⟨by rw[hi,jV (by omega),jV (by omega)]; rfl,trivial⟩
theorem AOF (G:Nat→AV)(a b:List Int)(s t:SM)(h:Hp)(hl:b.length≤1099511627776):PCall (En G) 168 [.sl s 1 (a.map qencI),.sl t 1 (b.map qencI)] h (.bool (eqL a b)):=by
 refine acN Tryz.func168 rfl ?_
 show awp _ _ _ _ _ (EM _ [.tmp 4] _)
 simp -implicitDefEqProofs only[vQ,BD,↓reduceIte,jB,enP,IZ,jH]
 refine CU (fun h1 => ?_) (fun h1 => ?_)
 ·simp -implicitDefEqProofs only[vQ,BD,↓reduceIte]
  have:eqL a b=false:=by
   unfold eqL; rw[decide_eq_false_iff_not]; intro e; subst e; simp at h1
  exact⟨by rw[this],trivial⟩
 have hab:a.length=b.length:=by simp at h1; omega
 simp -implicitDefEqProofs only[vQ,BD]
 refine DL (fun n F H => ∃ k,n+k=a.length∧F 0 = .sl s 1 (a.map qencI)∧F 1 = .sl t 1 (b.map qencI)∧F 5 = .int .i64 (k:Nat)∧H=h∧eqL a b=eqL (a.drop k) (b.drop k)) a.length ⟨0,by simp,by simp -implicitDefEqProofs only[vQ,↓reduceIte,jB],by simp -implicitDefEqProofs only[vQ,↓reduceIte,jB],by simp -implicitDefEqProofs only[AA,↓reduceIte]; rfl,rfl,rfl⟩ ?_
 rintro n F H ⟨k,hk,f0,f1,f5,rfl,hi⟩
 simp -implicitDefEqProofs only[vQ,BD,↓reduceIte,jB,enP,IZ,f0,f5,jH]
 refine CU (fun hc => ?_) (fun hc => ?_)
 ·have hk':k < a.length:=by simpa using hc
  have hkb:k < b.length:=by omega
  rw[AFI hk' hkb] at hi
  simp -implicitDefEqProofs only[vQ]
  refine EY (by kernel_rfl) ?_
  simp -implicitDefEqProofs only[vQ,↓reduceIte,jB,jM,enP,IB,f0,f1,f5,DN hk',DN hkb,CY ag3 hk',CY ag3 hkb,encI0]
  refine CU (fun hd => ?_) (fun hd => ?_)
  ·simp -implicitDefEqProofs only[vQ,BD,↓reduceIte]
   have:decide (a[k]=b[k])=false:=by simpa using hd
   exact⟨by rw[hi,this]; rfl,trivial⟩
  ·simp -implicitDefEqProofs only[vQ,BD,↓reduceIte,jB,enP,f5,wrap_succ (show k < 9223372036854775807 by omega)]
   have:decide (a[k]=b[k])=true:=by simpa using hd
   exact⟨n - 1,by omega,k+1,by omega,f0,f1,rfl,trivial,by rw[hi,this]; rfl⟩
 ·have hk' : ¬ k < a.length:=by simpa using hc
  simp -implicitDefEqProofs only[vQ,BD,↓reduceIte]
  exact⟨by rw[hi,jV (by omega),jV (by omega)]; rfl,trivial⟩
theorem AOE (G:Nat→AV)(a b:List Int)(s t:SM)(h:Hp)(hl:b.length≤1099511627776):PCall (En G) 61 [.sl s 1 (a.map qencI),.sl t 1 (b.map qencI)] h (.bool (eqL a b)):=by
 refine acN Tryz.func61 rfl ?_
 show awp _ _ _ _ _ (EM _ [.tmp 4] _)
 simp -implicitDefEqProofs only[vQ,BD,↓reduceIte,jB,enP,IZ,jH]
 refine CU (fun h1 => ?_) (fun h1 => ?_)
 ·simp -implicitDefEqProofs only[vQ,BD,↓reduceIte]
  have:eqL a b=false:=by
   unfold eqL; rw[decide_eq_false_iff_not]; intro e; subst e; simp at h1
  exact⟨by rw[this],trivial⟩
 have hab:a.length=b.length:=by simp at h1; omega
 simp -implicitDefEqProofs only[vQ,BD]
 refine DL (fun n F H => ∃ k,n+k=a.length∧F 0 = .sl s 1 (a.map qencI)∧F 1 = .sl t 1 (b.map qencI)∧F 5 = .int .i64 (k:Nat)∧H=h∧eqL a b=eqL (a.drop k) (b.drop k)) a.length ⟨0,by simp,by simp -implicitDefEqProofs only[vQ,↓reduceIte,jB],by simp -implicitDefEqProofs only[vQ,↓reduceIte,jB],by simp -implicitDefEqProofs only[AA,↓reduceIte]; rfl,rfl,rfl⟩ ?_
 rintro n F H ⟨k,hk,f0,f1,f5,rfl,hi⟩
 simp -implicitDefEqProofs only[vQ,BD,↓reduceIte,jB,enP,IZ,f0,f5,jH]
 refine CU (fun hc => ?_) (fun hc => ?_)
 ·have hk':k < a.length:=by simpa using hc
  have hkb:k < b.length:=by omega
  rw[AFI hk' hkb] at hi
  simp -implicitDefEqProofs only[vQ]
  refine EY (by kernel_rfl) ?_
  simp -implicitDefEqProofs only[vQ,↓reduceIte,jB,jM,enP,IB,f0,f1,f5,DN hk',DN hkb,CY ag3 hk',CY ag3 hkb,encI0]
  refine CU (fun hd => ?_) (fun hd => ?_)
  ·simp -implicitDefEqProofs only[vQ,BD,↓reduceIte]
   have:decide (a[k]=b[k])=false:=by simpa using hd
   exact⟨by rw[hi,this]; rfl,trivial⟩
  ·simp -implicitDefEqProofs only[vQ,BD,↓reduceIte,jB,enP,f5,wrap_succ (show k < 9223372036854775807 by omega)]
   have:decide (a[k]=b[k])=true:=by simpa using hd
   exact⟨n - 1,by omega,k+1,by omega,f0,f1,rfl,trivial,by rw[hi,this]; rfl⟩
 ·have hk' : ¬ k < a.length:=by simpa using hc
  simp -implicitDefEqProofs only[vQ,BD,↓reduceIte]
  exact⟨by rw[hi,jV (by omega),jV (by omega)]; rfl,trivial⟩
def J7 (n:Int):Bool:=decide (0≤n) && decide (n≤1099511627776)
def countB (n:Int)(may:Bool):Bool:=J7 n && (may || n == 0)
theorem VD (G:Nat→AV)(n:Int)(h:Hp):PCall (En G) 164 [.int .i64 n] h (.bool (J7 n)):=by
 refine acN Tryz.func164 rfl ?_
 show awp _ _ _ _ _ (EM _ [.tmp 2] _)
 simp -implicitDefEqProofs only[vQ,CP,BD,↓reduceIte,jB,enP]
 cases ha:decide (n≥0)
 all_goals
  simp -implicitDefEqProofs only[vQ,CP,BD,EW,↓reduceIte,jB,enP,ha]
  exact⟨by unfold J7; rw[show decide (0≤n)=decide (n≥0) from rfl,ha]; rfl,trivial⟩
theorem AM8 (G:Nat→AV)(b:Bin)(h:Hp):PCall (En G) 160 [.agg (G9 b)] h (.bool (b.kind == 0)):=by
 refine ACalls.pure0 rfl ?_
 refine acN Tryz.func160 rfl ?_
 show awp _ _ _ _ _ (EM _ [.tmp 2] _)
 simp -implicitDefEqProofs only[vQ,BD,↓reduceIte,jB,enP,ND,bxB,DW ag3,QV]
 exact⟨trivial,_,rfl⟩
def WT (m:Mo)(p b:Int):Int:=match (IX m p)[b.toNat]? with
 | some x=>x.kind
 | none=>0
def MO (m:Mo):List Int→List Int→Bool
 | p :: ps,b :: bs=>(WT m p b == 0) && MO m ps bs
 | _,_=>true
def PH (m:Mo)(c:Cr)(l:List Int):Bool:=MO m c.pts l && !(c.excl.any fun x=>eqL x.l l)
theorem VO {m:Mo} : ∀ {ps l:List Int},JV (szs m ps) l=true→∀ (k:Nat) (hk:k < l.length) (hp:k < ps.length),0≤l[k]∧l[k] < ((IX m ps[k]).length:Int)
 | p :: ps,b :: bs,h,k,hk,hp=>by
   simp only[szs,jD,JV,jX,decide_eq_true_eq] at h
   cases k with
   | zero=>exact h.1
   | succ k=>exact VO (m:=m) (ps:=ps) h.2 k (by simpa using hk) (by simpa using hp)
 | [],b :: bs,h,k,hk,hp=>by simp at hp
 | _,[],h,k,hk,hp=>by simp at hk
theorem TN (m:Mo)(ps l:List Int)(k:Nat)(hp:k < ps.length)(hk:k < l.length):MO m (ps.drop k) (l.drop k)=((WT m ps[k] l[k] == 0) && MO m (ps.drop (k+1)) (l.drop (k+1))):=by
 rw[zK hp,zK hk]; rfl
theorem VN (m:Mo)(ps:List Int):MO m ps []=true:=by cases ps <;> rfl
theorem AJ5 {m:Mo}{p b:Int}(h0:0≤b)(h1:b < ((IX m p).length:Int))(h:Hp)(s:SM):J3 4 h (.sl s 4 ((IX m p).map G9)) (.int .i64 b)=some (.fptr 4 ((IX m p).map G9) b.toNat 0) :=
 A2P h0 (by rw[jH]; exact h1)
theorem AAV {m:Mo}{p b:Int}(h0:0≤b)(h1:b < ((IX m p).length:Int)):((IX m p)[b.toNat]'(by omega)).kind=WT m p b:=by
 unfold WT; rw[jS (by omega)]
theorem A05 (G:Nat→AV)(l:List Int)(s:SM)(b:Nat)(r:Is)(h:Hp)(hb:h[b]? = some (.live 1 [[.sl s 1 (l.map qencI)]]))(hl:l.length≤1099511627776) :
  PCall (En G) 161 [.sl r.m 1 (r.l.map qencI),.ptr b 0 0] h (.bool (eqL r.l l)):=by
 refine acN Tryz.func161 rfl ?_
 show awp _ _ _ _ _ (EM _ [.tmp 3] _)
 simp -implicitDefEqProofs only[vQ,BD,↓reduceIte,jB,enP,J8 KO hb]
 refine(AFH G r.l l r.m s h hl).use ?_
 simp -implicitDefEqProofs only[vQ,BD,↓reduceIte]
 exact⟨trivial,trivial⟩
theorem Two.app {h H:Hp}{m:Mo}{c:Cr}{cb:Nat}(t:Two h H m c cb)(x:Hp):Two h (H++x) m c cb:=by
 obtain⟨y,hy⟩:=t.hx
 exact⟨F7 t.gm,F7 t.gc,⟨y++x,by rw[hy,zH]⟩⟩
theorem AGS (G:Nat→AV)(m:Mo)(c:Cr)(l:List Int)(s:SM)(h:Hp)(hh:Here m c.pts)(hi:JV (szs m c.pts) l=true)(hl:c.pts.length≤1048576)(hx:c.excl.length≤1048576):PCall (En G) 115 [.agg (EE m),.agg (GV c),.sl s 1 (l.map qencI)] h (.bool (PH m c l)):=by
 refine ACalls.pure0 rfl ?_
 have hlen:l.length=c.pts.length:=by have:=MR hi; rw[LG] at this; omega
 refine acN Tryz.func115 rfl ?_
 show awp _ _ _ _ _ (EM _ [.tmp 6] _)
 have t:=(Two.mk' h m c).app [.live 1 [[.sl s 1 (l.map qencI)]]]
 have gl:=CZ (h++[ABlk.live 2 [EE m]]++[ABlk.live 3 [GV c]]) (.live 1 [[.sl s 1 (l.map qencI)]])
 simp -implicitDefEqProofs only[vQ,APW,BD,↓reduceIte,jB,enP,bxM,bxC]
 generalize h++[ABlk.live 2 [EE m]]++[ABlk.live 3 [GV c]]++[ABlk.live 1 [[.sl s 1 (l.map qencI)]]]=H at t gl ⊢
 generalize (h++[ABlk.live 2 [EE m]]++[ABlk.live 3 [GV c]]).length=lb at gl ⊢
 generalize (h++[ABlk.live 2 [EE m]]).length=cb at t ⊢
 simp -implicitDefEqProofs only[vQ,BD,↓reduceIte,enP,IZ,J8 KO gl,jH]
 have hkb:=TN m c.pts l
 refine GZ 0 (fun F H'=>F 4 = .ptr cb 0 0∧F 5 = .ptr lb 0 0∧H'=H∧MO m c.pts l=true) (fun F H'=>F 6 = .bool false∧H'=H∧MO m c.pts l=false) ?_ ?_ ?_
 ·refine DL (fun n F H' => ∃ k,n+k=l.length∧F 3 = .ptr h.length 0 0∧F 4 = .ptr cb 0 0∧F 5 = .ptr lb 0 0∧F 9 = .sl s 1 (l.map qencI)∧F 10 = .int .i64 l.length∧F 11 = .int .i64 (k:Nat)∧H'=H∧MO m c.pts l=MO m (c.pts.drop k) (l.drop k)) l.length ⟨0,by simp,by simp -implicitDefEqProofs only[AA,↓reduceIte,jB],by simp -implicitDefEqProofs only[AA,↓reduceIte,jB],by simp -implicitDefEqProofs only[AA,↓reduceIte,jB],by simp -implicitDefEqProofs only[AA,↓reduceIte,jB],by simp -implicitDefEqProofs only[AA,↓reduceIte,jB],by simp -implicitDefEqProofs only[AA,↓reduceIte]; rfl,rfl,rfl⟩ ?_
  rintro n F H' ⟨k,hk,f3,f4,f5,f9,f10,f11,rfl,hk0⟩
  simp -implicitDefEqProofs only[vQ,BD,↓reduceIte,enP,f10,f11]
  refine CU (fun hc => ?_) (fun hc => ?_)
  ·have hk':k < l.length:=by simpa using hc
   have hkc:k < c.pts.length:=by omega
   rw[hkb k hkc hk'] at hk0
   obtain⟨h0,h1⟩:=VO hi k hk' hkc
   obtain⟨s2,ls⟩:=hh.ld hkc H'
   simp -implicitDefEqProofs only[vQ,BD,↓reduceIte,jB,enP,IB,f9,f11,DN hk',CY ag3 hk',encI0]
   refine EY (by kernel_rfl) ?_
   simp -implicitDefEqProofs only[vQ,AGI,↓reduceIte,jB,jM,enP,PG,GU,IB,SA,IE,JH,f3,f4,f11,t.lm,t.l1,DN hkc,CY ag3 hkc,encI0,hh.ix hkc,ls,AJ5 h0 h1,FU AC6 YQ MG (show l[k].toNat < (IX m c.pts[k]).length by omega)]
   refine⟨_,AM8 G _ _,?_⟩
   try simp -implicitDefEqProofs only[vQ,↓reduceIte]
   rw[AAV h0 h1]
   cases hkd:(WT m c.pts[k] l[k] == 0)
   ·simp -implicitDefEqProofs only[vQ,BD,↓reduceIte]
    exact⟨trivial,trivial,by rw[hk0,hkd]; rfl⟩
   ·simp -implicitDefEqProofs only[vQ,BD,↓reduceIte,jB,jU,enP,f11,wrap_succ (show k < 9223372036854775807 by omega)]
    exact⟨n - 1,by omega,k+1,by omega,f3,f4,f5,f9,f10,rfl,trivial,by rw[hk0,hkd]; rfl⟩
  ·have hk' : ¬ k < l.length:=by simpa using hc
   simp -implicitDefEqProofs only[vQ,↓reduceIte,jB]
   exact⟨f4,f5,trivial,by rw[hk0,jV (show l.length≤k by omega),VN]⟩
 ·rintro F H' ⟨f4,f5,rfl,hk⟩
  simp -implicitDefEqProofs only[vQ,BD,I5,↓reduceIte,jB,enP,QP,f4,f5,t.l2]
  refine(SQ G c.excl c.xm 161 _ (fun x=>eqL x.l l) _ (by omega) fun r=>A05 G l s _ r _ gl (by omega)).use ?_
  simp -implicitDefEqProofs only[vQ,BD,↓reduceIte]
  exact⟨by unfold PH; rw[hk]; rfl,t.hx⟩
 ·rintro F H' ⟨f6,rfl,hk⟩
  simp -implicitDefEqProofs only[vQ,f6]
  exact⟨by unfold PH; rw[hk]; rfl,t.hx⟩
theorem AFP (G:Nat→AV)(m:Mo)(c:Cr)(l:List Int)(s:SM)(h:Hp)(hh:Here m c.pts)(hi:JV (szs m c.pts) l=true)(hl:c.pts.length≤1048576)(hx:c.excl.length≤1048576):PCall (En G) 126 [.agg (EE m),.agg (GV c),.sl s 1 (l.map qencI)] h (.bool (PH m c l)):=by
 refine ACalls.pure0 rfl ?_
 have hlen:l.length=c.pts.length:=by have:=MR hi; rw[LG] at this; omega
 refine acN Tryz.func126 rfl ?_
 show awp _ _ _ _ _ (EM _ [.tmp 6] _)
 have t:=Two.mk' h m c
 simp -implicitDefEqProofs only[vQ,BD,↓reduceIte,jB,enP,bxM,bxC]
 generalize h++[ABlk.live 2 [EE m]]++[ABlk.live 3 [GV c]]=H at t ⊢
 generalize (h++[ABlk.live 2 [EE m]]).length=cb at t ⊢
 have hkb:=TN m c.pts l
 refine GZ 0 (fun F H'=>F 2 = .sl s 1 (l.map qencI)∧F 3 = .ptr h.length 0 0∧F 4 = .ptr cb 0 0∧H'=H∧(c.excl.any fun x=>eqL x.l l)=false) (fun F H'=>F 6 = .bool false∧H'=H∧(c.excl.any fun x=>eqL x.l l)=true) ?_ ?_ ?_
 ·refine DL (fun n F H' => ∃ k,n+k=c.excl.length∧F 2 = .sl s 1 (l.map qencI)∧F 3 = .ptr h.length 0 0∧F 4 = .ptr cb 0 0∧F 7 = .int .i64 (k:Nat)∧H'=H∧(c.excl.any fun x=>eqL x.l l)=((c.excl.drop k).any fun x=>eqL x.l l)) c.excl.length ⟨0,by simp,by simp -implicitDefEqProofs only[vQ,↓reduceIte,jB],by simp -implicitDefEqProofs only[AA,↓reduceIte,jB],by simp -implicitDefEqProofs only[AA,↓reduceIte,jB],by simp -implicitDefEqProofs only[AA,↓reduceIte]; rfl,rfl,rfl⟩ ?_
  rintro n F H' ⟨k,hk,f2,f3,f4,f7,rfl,ha⟩
  simp -implicitDefEqProofs only[vQ,BD,↓reduceIte,jB,enP,AC0,QP,f4,f7,t.l2,jH]
  refine CU (fun hc => ?_) (fun hc => ?_)
  ·have hk':k < c.excl.length:=by simpa using hc
   have hs:=KT (fun x:Is=>eqL x.l l) c.excl k hk'
   simp -implicitDefEqProofs only[vQ,BD,↓reduceIte,jB,enP,PO,QP,f2,f4,f7,t.l2,DN hk',CY KO hk',PT]
   refine(AOF G c.excl[k].l l _ s _ (by omega)).use ?_
   simp -implicitDefEqProofs only[vQ,↓reduceIte]
   cases he:eqL c.excl[k].l l
   ·simp -implicitDefEqProofs only[vQ,BD,↓reduceIte,jB,enP,f7,wrap_succ (show k < 9223372036854775807 by omega)]
    exact⟨n - 1,by omega,k+1,by omega,f2,f3,f4,rfl,trivial,by rw[ha,hs,he]; rfl⟩
   ·simp -implicitDefEqProofs only[vQ,BD,↓reduceIte]
    exact⟨trivial,trivial,by rw[ha,hs,he]; rfl⟩
  ·have hk' : ¬ k < c.excl.length:=by simpa using hc
   simp -implicitDefEqProofs only[vQ,↓reduceIte,jB]
   exact⟨f2,f3,f4,trivial,by rw[ha,jV (by omega)]; rfl⟩
 ·rintro F H' ⟨f2,f3,f4,rfl,ha⟩
  have hhb:PH m c l=MO m c.pts l:=by unfold PH; rw[ha]; simp
  rw[hhb]
  simp -implicitDefEqProofs only[vQ,BD,↓reduceIte]
  refine DL (fun n F H => ∃ k,n+k=l.length∧F 2 = .sl s 1 (l.map qencI)∧F 3 = .ptr h.length 0 0∧F 4 = .ptr cb 0 0∧F 8 = .int .i64 (k:Nat)∧H=H'∧MO m c.pts l=MO m (c.pts.drop k) (l.drop k)) l.length ⟨0,by simp,by simp -implicitDefEqProofs only[AA,↓reduceIte,jB,f2],by simp -implicitDefEqProofs only[AA,↓reduceIte,jB,f3],by simp -implicitDefEqProofs only[AA,↓reduceIte,jB,f4],by simp -implicitDefEqProofs only[AA,↓reduceIte]; rfl,rfl,rfl⟩ ?_
  clear f2 f3 f4
  rintro n F H' ⟨k,hk,f2,f3,f4,f8,rfl,hk0⟩
  simp -implicitDefEqProofs only[vQ,BD,↓reduceIte,jB,enP,IZ,f2,f8,jH]
  refine CU (fun hc => ?_) (fun hc => ?_)
  ·have hk':k < l.length:=by simpa using hc
   have hkc:k < c.pts.length:=by omega
   rw[hkb k hkc hk'] at hk0
   obtain⟨h0,h1⟩:=VO hi k hk' hkc
   obtain⟨s2,ls⟩:=hh.ld hkc H'
   have hlt:l[k].toNat < (IX m c.pts[k]).length:=by omega
   simp -implicitDefEqProofs only[vQ]
   refine EY (by kernel_rfl) ?_
   simp -implicitDefEqProofs only[vQ,↓reduceIte,jB,jM,enP,PG,GU,IB,SA,IE,ND,JH,bne,f2,f3,f4,f8,t.lm,t.l1,DN hkc,CY ag3 hkc,DN hk',CY ag3 hk',encI0,hh.ix hkc,ls,AJ5 h0 h1,CY ag3 hlt,QV,AAV h0 h1]
   cases hkd:(WT m c.pts[k] l[k] == 0)
   ·simp -implicitDefEqProofs only[vQ,BD,↓reduceIte]
    exact⟨by rw[hk0,hkd]; rfl,t.hx⟩
   ·simp -implicitDefEqProofs only[vQ,BD,↓reduceIte,jB,jU,enP,f8,wrap_succ (show k < 9223372036854775807 by omega)]
    exact⟨n - 1,by omega,k+1,by omega,f2,f3,f4,rfl,trivial,by rw[hk0,hkd]; rfl⟩
  ·have hk' : ¬ k < l.length:=by simpa using hc
   simp -implicitDefEqProofs only[vQ,BD,↓reduceIte]
   exact⟨by rw[hk0,jV (show l.length≤k by omega),VN],t.hx⟩
 ·rintro F H' ⟨f6,rfl,ha⟩
  simp -implicitDefEqProofs only[vQ,f6]
  exact⟨by unfold PH; rw[ha]; simp,t.hx⟩
end Go.Proofs.YtfpagfhhhlljjaaGreatDoor.Cov
