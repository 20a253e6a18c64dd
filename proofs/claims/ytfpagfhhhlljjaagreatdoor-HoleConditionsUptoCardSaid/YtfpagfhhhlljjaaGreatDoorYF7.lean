/- Part 7 of the proof (M3, L1, M4, M5, M6, M7, M8, M9, M10, M11, M12, M13, M14); no condition. -/
import Derived.Test.YtfpagfhhhlljjaaGreatDoorYF6
set_option linter.unusedVariables false
set_option linter.unusedSimpArgs false
set_option maxRecDepth 8000
namespace Go.Proofs.YtfpagfhhhlljjaaGreatDoor.Cov
open Sm Bins Go.RowKit
open Bool renaming not_false→jC,not_true→jV,and_eq_true→jX,true_and→qO,false_eq_true→jW
open List renaming map_cons→jD,map_nil→jE,append_nil→jF,length_map→jH,getElem_mem→jS,drop_eq_nil_of_le→jZ,getElem?_map→jY,getElem?_eq_getElem→jO,length_take→zF,drop_zero→zK,take_of_length_le→jU,map_map→qI,all_eq_true→zH,mem_map→zI,take_succ_eq_append_getElem→zL,foldl_cons→qX,drop_eq_getElem_cons→zN,findIdx?_eq_some_iff_getElem→qZ,findIdx?_eq_none_iff→wC,any_eq_false→wQ,mem_cons→qN,append_assoc→zD
open Nat renaming le_of_ble_eq_true→jI,reduceEqDiff→jB,add_zero→jM,zero_add→jG,reduceAdd→jP,le_trans→qL,le_refl→jL
open Option renaming getD_some→jA,getD_none→jT
theorem AR2 (G:Nat→AV)(p:Pt)(hp:PtOk p)(h:Hp):PCall (En G) 57 [.agg (GG p)] h (.int .i64 (GN p)):=by
 refine ACalls.pure0 rfl ?_
 have hp1:=hp.ex
 have hp2:=hp.name
 have hp3:=hp.num
 refine acN Tryz.func57 rfl ?_
 show awp _ _ _ _ _ (EJ _ [.tmp 2] _)
 simp -implicitDefEqProofs only[vQ,BD,↓reduceIte,jB,enP,AD1,bxP,DF ag9,AL1]
 refine(PE G p.name _).use ?_
 simp -implicitDefEqProofs only[vQ,BD,↓reduceIte]
 cases h1:IA p.name
 ·simp -implicitDefEqProofs only[vQ,BD,↓reduceIte]
  exact⟨by unfold GN; rw[if_pos h1],_,rfl⟩
 have h1' : ¬ IA p.name=false:=by rw[h1]; decide
 simp -implicitDefEqProofs only[vQ,BD,↓reduceIte,jB,jV,enP,UJ,AOB (CZ h _)]
 refine(ALV G p.ex _ hp1).use ?_
 simp -implicitDefEqProofs only[vQ,BD,↓reduceIte,enP]
 refine CU (fun h2 => ?_) (fun h2 => ?_)
 ·simp -implicitDefEqProofs only[vQ,BD,↓reduceIte,jB]
  exact⟨by unfold GN; rw[if_neg h1',if_pos (by simpa using h2)],_,rfl⟩
 have h2' : ¬ exE p.ex≠0:=by simpa using h2
 simp -implicitDefEqProofs only[vQ,BD,↓reduceIte,jB,enP,QD,I4,DF U2,O6,jH]
 refine CU (fun h3 => ?_) (fun h3 => ?_)
 ·simp -implicitDefEqProofs only[vQ,BD,↓reduceIte]
  exact⟨by unfold GN; rw[if_neg h1',if_neg h2',if_pos (by simp at h3; simpa using h3)],_,rfl⟩
 have h3' : ¬ p.bins.length=0:=by simp at h3; simpa using h3
 simp -implicitDefEqProofs only[vQ,BD,↓reduceIte,jB,enP,QD,I4,DF U2,O6,jH]
 refine CU (fun h4 => ?_) (fun h4 => ?_)
 ·simp -implicitDefEqProofs only[vQ,BD,↓reduceIte]
  exact⟨by unfold GN; rw[if_neg h1',if_neg h2',if_neg h3',if_pos (by simp at h4; omega)],_,rfl⟩
 have h4' : ¬ 64 < p.bins.length:=by simp at h4; omega
 have hpt:GN p=if KA H9 p.bins≠0 then KA H9 p.bins else if OZ (p.bins.map (·.name)) then 8 else 0:=by
  unfold GN; rw[if_neg h1',if_neg h2',if_neg h3',if_neg h4']
 simp -implicitDefEqProofs only[vQ,BD]
 refine G6 0 (fun F H=>F 1 = .ptr h.length 0 0∧H=h++[.live 6 [GG p]]∧KA H9 p.bins=0) (fun F H=>F 2 = .int .i64 (GN p)∧∃ x,H=h++x) ?_ ?_ ?_
 ·refine DK (fun n F H => ∃ k,n+k=p.bins.length∧F 1 = .ptr h.length 0 0∧F 4 = .int .i64 (k:Nat)∧H=h++[.live 6 [GG p]]∧KA H9 p.bins=KA H9 (p.bins.drop k)) p.bins.length ⟨0,by simp,by simp -implicitDefEqProofs only[AA,↓reduceIte,jB],by simp -implicitDefEqProofs only[AA,↓reduceIte]; rfl,rfl,rfl⟩ ?_
  rintro n F H ⟨k,hk,f1,f4,rfl,hf⟩
  simp -implicitDefEqProofs only[vQ,BD,↓reduceIte,jB,enP,QD,I4,f1,f4,DF U2,O6,jH]
  refine CU (fun hc => ?_) (fun hc => ?_)
  ·have hk':k < p.bins.length:=by simpa using hc
   have hs:=PG H9 p.bins k hk'
   simp -implicitDefEqProofs only[vQ,BD,↓reduceIte,jB,enP,TG,I4,f1,f4,DF U2,O6,DL hk',FM ABV XF LP hk']
   refine(valid_ref G p.bins[k] (hp.bins _ (jS hk')) _).use ?_
   simp -implicitDefEqProofs only[vQ,BD,↓reduceIte,enP]
   refine CU (fun hv => ?_) (fun hv => ?_)
   ·simp -implicitDefEqProofs only[vQ,BD,↓reduceIte,jB]
    have hv':H9 p.bins[k]≠0:=by simpa using hv
    have:KA H9 p.bins=H9 p.bins[k]:=by rw[hf,hs,if_neg hv']
    exact⟨by rw[hpt,this,if_pos hv'],_,rfl⟩
   ·have hv':H9 p.bins[k]=0:=by simpa using hv
    simp -implicitDefEqProofs only[vQ,BD,↓reduceIte,jB,enP,f4,wrap_succ (show k < 9223372036854775807 by omega)]
    exact⟨n - 1,by omega,k+1,by omega,f1,rfl,trivial,by rw[hf,hs,if_pos hv']⟩
  ·have hk' : ¬ k < p.bins.length:=by simpa using hc
   simp -implicitDefEqProofs only[vQ,↓reduceIte,jB]
   exact⟨f1,trivial,by rw[hf,jZ (by omega)]; rfl⟩
 ·rintro F H ⟨f1,rfl,hf⟩
  rw[hf,if_neg (fun hh=>hh rfl)] at hpt
  simp -implicitDefEqProofs only[vQ,BD,↓reduceIte,f1]
  generalize hN:p.bins.map (·.name)=N at hpt
  have hNl:N.length=p.bins.length:=by rw[← hN]; simp
  have hNi : ∀ i (hi:i < p.bins.length),N[i]? = some p.bins[i].name:=fun i hi=>by rw[← hN,jY,jO hi]; rfl
  refine DK (fun n F H => ∃ i,n+i=p.bins.length∧F 1 = .ptr h.length 0 0∧F 5 = .int .i64 (i:Nat)∧H=h++[.live 6 [GG p]]∧OZ N=AFR (N.take i) (N.drop i)) p.bins.length ⟨0,by simp,by simp -implicitDefEqProofs only[AA,↓reduceIte,jB,f1],by simp -implicitDefEqProofs only[AA,↓reduceIte]; rfl,rfl,rfl⟩ ?_
  clear f1
  rintro n F H ⟨i,hi,f1,f5,rfl,hd⟩
  simp -implicitDefEqProofs only[vQ,BD,↓reduceIte,jB,enP,QD,I4,f1,f5,DF U2,O6,jH]
  refine CU (fun hc => ?_) (fun hc => ?_)
  ·have hi':i < p.bins.length:=by simpa using hc
   have hdrop:=QQ N i (by omega)
   rw[IE (hNi i hi')] at hdrop
   simp -implicitDefEqProofs only[vQ,BD,f5]
   refine G6 4 (fun F' H'=>F' 1 = .ptr h.length 0 0∧F' 5 = .int .i64 (i:Nat)∧H'=h++[.live 6 [GG p]]∧IZ (N.take i) p.bins[i].name=false) (fun F' H'=>F' 2 = .int .i64 8∧H'=h++[.live 6 [GG p]]∧OZ N=true) ?_ ?_ ?_
   ·refine DK (fun n F' H' => ∃ k,n+k=i∧F' 1 = .ptr h.length 0 0∧F' 5 = .int .i64 (i:Nat)∧F' 6 = .int .i64 (k:Nat)∧H'=h++[.live 6 [GG p]]∧IZ (N.take i) p.bins[i].name=IZ ((N.take i).drop k) p.bins[i].name) i ⟨0,by simp,by simp -implicitDefEqProofs only[AA,↓reduceIte,jB,f1],by simp -implicitDefEqProofs only[AA,↓reduceIte,jB,f5],by simp -implicitDefEqProofs only[AA,↓reduceIte]; rfl,rfl,rfl⟩ ?_
    clear f1 f5
    rintro n' F H' ⟨k,hk,f1,f5,f6,rfl,hin⟩
    simp -implicitDefEqProofs only[vQ,BD,↓reduceIte,jB,enP,f5,f6]
    refine CU (fun hc => ?_) (fun hc => ?_)
    ·have hk':k < i:=by simpa using hc
     have hk2:k < p.bins.length:=by omega
     have hs:=LU (fun u=>p.bins[i].name.toList == u.toList) (N.take i) k (by rw[zF]; omega)
     have hx:(N.take i)[k]'(by rw[zF]; omega)=p.bins[k].name:=by
      rw[List.getElem_take]; exact IE (hNi k hk2)
     rw[hx] at hs
     simp -implicitDefEqProofs only[vQ]
     refine ET (by kernel_rfl) ?_
     simp -implicitDefEqProofs only[vQ,LQ,↓reduceIte,jB,jP,enP,TG,I4,AD0,f1,f5,f6,DF U2,O6,DL hi',DL hk2,C9 ag9 hi',C9 ag9 hk2,AL5]
     refine CU (fun hb => ?_) (fun hb => ?_)
     ·simp -implicitDefEqProofs only[vQ,BD,↓reduceIte]
      have:IZ (N.take i) p.bins[i].name=true:=by
       rw[hin]; unfold IZ; rw[hs,BEq.comm,hb]; rfl
      exact⟨trivial,trivial,by rw[hd,hdrop,this]; rfl⟩
     ·simp -implicitDefEqProofs only[vQ,BD,↓reduceIte,jB,enP,f6,wrap_succ (show k < 9223372036854775807 by omega)]
      refine⟨n' - 1,by omega,k+1,by omega,f1,f5,rfl,trivial,?_⟩
      rw[hin]; unfold IZ; rw[hs,BEq.comm,hb]; rfl
    ·have hk' : ¬ k < i:=by simpa using hc
     simp -implicitDefEqProofs only[vQ,↓reduceIte,jB]
     refine⟨f1,f5,trivial,?_⟩
     rw[hin,jZ (by rw[zF]; omega)]; rfl
   ·rintro F' H' ⟨g1,g5,rfl,hn⟩
    simp -implicitDefEqProofs only[vQ,BD,↓reduceIte,jB,enP,g5,wrap_succ (show i < 9223372036854775807 by omega)]
    refine⟨n - 1,by omega,i+1,by omega,g1,rfl,trivial,?_⟩
    rw[hd,hdrop,hn]; rfl
   ·rintro F' H' ⟨g2,rfl,hdd⟩
    simp -implicitDefEqProofs only[vQ,g2]
    exact⟨by rw[hpt,hdd]; rfl,_,rfl⟩
  ·have hi' : ¬ i < p.bins.length:=by simpa using hc
   simp -implicitDefEqProofs only[vQ,BD,↓reduceIte]
   exact⟨by rw[hpt,hd,jZ (by omega)]; rfl,_,rfl⟩
 ·rintro F H ⟨f2,hx⟩
  simp -implicitDefEqProofs only[vQ,f2]
  exact⟨trivial,hx⟩
def outG {α:Type}(k:Nat)(f:α→List AV)(h:Hp)(ys:List α)(v:AV)(H:Hp):Prop :=
 (ys = []∧v = .sl .nil 0 [])∨(ys≠[]∧∃ o,h.length≤o∧v = .own o 0 ys.length∧H[o]? = some (.live k (ys.map f)))
theorem outG.nil {α:Type}(k:Nat)(f:α→List AV)(h H:Hp):outG k f h [] (.sl .nil 0 []) H := .inl ⟨rfl,rfl⟩
theorem outG.keep {α:Type}{k:Nat}{f:α→List AV}{h H H':Hp}{ys:List α}{v:AV}(ho:outG k f h ys v H)(hk : ∀ b,isB v b→H'[b]? = H[b]?):outG k f h ys v H':=by
 rcases ho with h1 | ⟨h1,o,h2,rfl,h3⟩
 ·exact .inl h1
 ·exact .inr ⟨h1,o,h2,rfl,by rw[hk o rfl]; exact h3⟩
theorem outG.lt {α:Type}{k:Nat}{f:α→List AV}{h H:Hp}{ys:List α}{v:AV}{b:Nat}(ho:outG k f h ys v H)(hb:isB v b):h.length≤b∧b < H.length:=by
 rcases ho with⟨_,rfl⟩ | ⟨_,o,h2,rfl,h3⟩
 ·exact hb.elim
 ·cases hb; exact⟨h2,CB h3⟩
theorem outG.app {α:Type}{k:Nat}{f:α→List AV}{h H:Hp}{ys:List α}{v:AV}(ho:outG k f h ys v H)(x:Hp):outG k f h ys v (H++x) :=
 ho.keep fun _ hb=>List.getElem?_append_left (ho.lt hb).2
theorem outG.append {P:Program}{t e:TypeId}{α:Type}{k bs:Nat}{f:α→List AV}{h H:Hp}{ys:List α}{v:AV}(ho:outG k f h ys v H)(hu:P.underlying t=some (.slice e))(hs:szO P e=some k)(hz:U3 P e=some k)(hb:ND P e=some bs)(hbs:bs≤4194304)(hl:ys.length < 8388608)(he:ext h H)(y:α) :
  ∃ v' H',FZ P true H t t v (.sl .full k [f y])=some (v',H')∧outG k f h (ys++[y]) v' H'∧(∀ b x,H[b]? = some x→¬ isB v b→H'[b]? = some x)∧ext h H'∧H.length≤H'.length∧∀ b,isB v' b→b=H.length:=by
 have h1:([f y]:List (List AV))≠[]:=by simp
 rcases ho with⟨rfl,rfl⟩ | ⟨hne,o,h2,rfl,h3⟩
 ·exact⟨_,_,PP hu hs hz hb (HY H .full k [f y]) h1 (IR (by simp) hbs),.inr ⟨by simp,H.length,he.le,rfl,by simp⟩,fun b x hb _=>F8 hb,he.app _,by simp,fun b hb=>hb.symm⟩
 ·have hc:JR H (.own o 0 ys.length)=some (k,ys.map f):=by
   rw[KU h3 (by simp),zK,jU (by simp)]
  refine⟨_,_,PO hu hs hz hb hc (HY H .full k [f y]) h1 (IR (by simp; omega) hbs),.inr ⟨by simp,H.length,he.le,by simp,by simp⟩,fun b x hb hn => ?_,(he.set h2 _).app _,by simp,fun b hb=>hb.symm⟩
  have hn' : ¬ o=b:=hn
  refine F8 ?_
  rw[List.getElem?_set,if_neg hn']; exact hb
theorem outG.len {P:Program}{t:TypeId}{α:Type}{k:Nat}{f:α→List AV}{h H:Hp}{ys:List α}{v:AV}(ho:outG k f h ys v H)(hl:(∀ m k xs,KY P t (.sl m k xs)=some (.int .i64 xs.length))∧∀ b off len,KY P t (.own b off len)=some (.int .i64 len)):KY P t v=some (.int .i64 ys.length):=by
 rcases ho with⟨rfl,rfl⟩ | ⟨_,o,_,rfl,_⟩
 ·exact hl.1 _ _ _
 ·exact hl.2 _ _ _
def nm {α:Type}(ys:List α):SM:=match ys with
 | [] => .nil
 | _ => .any
theorem frzF_own (n:Nat)(h:Hp)(d b off len k:Nat)(xs:List (List AV))(hn : ¬ b < n)(hb:h[b]? = some (.live k xs)):IL n h (d+1) (.own b off len)=if off+len≤xs.length∧(((xs.drop off).take len).map (·.map (IL n h d))).all (·.all AV.leaf)=true then .sl .any k (((xs.drop off).take len).map (·.map (IL n h d))) else .junk:=by
 rw[IL]
 simp only[hn,if_false,hb]
def Frz {α:Type}(f:α→List AV):Prop := ∀ (n:Nat) (h:Hp) (d:Nat) (x:α),(f x).map (IL n h (d+1))=f x∧(f x).all AV.leaf=true
theorem frz_rows {α:Type}{f:α→List AV}(hf:Frz f)(n:Nat)(h:Hp)(d:Nat)(xs:List α):(xs.map f).map (·.map (IL n h (d+1)))=xs.map f:=by
 rw[qI]
 exact List.map_congr_left fun x _=>(hf n h d x).1
theorem frz_own {α:Type}{f:α→List AV}(hf:Frz f){n d k:Nat}{h:Hp}{o:Nat}{xs:List α}(hn:n≤o)(ho:h[o]? = some (.live k (xs.map f))):IL n h (d+2) (.own o 0 xs.length) = .sl .any k (xs.map f):=by
 rw[frzF_own n h (d+1) o 0 xs.length k _ (by omega) ho,zK,jU (by simp),frz_rows hf n h d xs]
 rw[if_pos]
 refine⟨by simp,?_⟩
 rw[zH]
 intro row hr
 obtain⟨x,_,rfl⟩:=zI.1 hr
 exact(hf n h d x).2
theorem N7 {E:Env}{f:FuncId}{args:List AV}{h:Hp}{α:Type}{k:Nat}{enc:α→List AV}(hf:Frz enc){ys:List α}(hc:ACalls E f args h fun v H=>ext h H∧outG k enc h ys v H):PCall E f args h (.sl (nm ys) k (ys.map enc)):=by
 have h1:ACalls E f args h fun v H=>v=(if ys.length=0 then AV.sl .nil 0 [] else .sl .any k (ys.map enc))∧H=h:=by
  refine ACalls.pure 2 hc ?_
  rintro v H ⟨hex,hout⟩
  refine⟨hex,?_⟩
  rcases hout with⟨rfl,rfl⟩ | ⟨hne,o,ho1,rfl,ho⟩
  ·rfl
  ·rw[if_neg (by simpa using hne)]; exact frz_own hf ho1 ho
 refine h1.conv ?_
 rintro v H ⟨rfl,rfl⟩
 refine⟨_,⟨rfl,rfl⟩,?_⟩
 intro g cv hr
 cases ys with
 | nil=>exact AK3 hr
 | cons y ys=>exact hr
def IU (m:Mo)(p:Int):List Bin:=match m.pts[p.toNat]? with
 | some q=>q.bins
 | none => []
def szs (m:Mo)(l:List Int):List Nat:=l.map fun p=>(IU m p).length
def Here (m:Mo)(l:List Int):Prop := ∀ p∈l,0≤p∧p < (m.pts.length:Int)
theorem Here.toNat {m:Mo}{l:List Int}(hh:Here m l){k:Nat}(hk:k < l.length):(l[k]).toNat < m.pts.length:=by
 have:=hh _ (jS hk); omega
theorem Here.bins {m:Mo}{l:List Int}(hh:Here m l){k:Nat}(hk:k < l.length):(m.pts[(l[k]).toNat]'(hh.toNat hk)).bins=IU m l[k]:=by
 unfold IU; rw[jO (hh.toNat hk)]
theorem Here.ix {m:Mo}{l:List Int}(hh:Here m l){k:Nat}(hk:k < l.length)(h:Hp)(s:SM):JZ 6 h (.sl s 6 (m.pts.map GG)) (.int .i64 l[k])=some (.fptr 6 (m.pts.map GG) (l[k]).toNat 0):=by
 have:=hh _ (jS hk)
 exact A1K this.1 (by rw[jH]; exact this.2)
theorem Here.ld {m:Mo}{l:List Int}(hh:Here m l){k:Nat}(hk:k < l.length)(h:Hp) : ∃ s,D5 Tryz.prog h 49 (.fptr 6 (m.pts.map GG) (l[k]).toNat 5)=some (.sl s 4 ((IU m l[k]).map GR)):=by
 rw[C9 U2 (hh.toNat hk),O6,hh.bins hk]
 exact⟨_,rfl⟩
theorem A47:Frz qencI:=fun _ _ _ _=>⟨rfl,rfl⟩
theorem AO4 (h:Hp)(v:Int):EQ Tryz.prog false h 26 1 [(0,.int .i64 v)]=some (.sl .full 1 [[.int .i64 v]],h):=by kernel_rfl
def KH (n:Nat):List AV := [.int .i64 (n:Int)]
theorem A22:Frz KH:=fun _ _ _ _=>⟨rfl,rfl⟩
theorem encN0 (n:Nat):(KH n)[0]? = some (.int .i64 (n:Int)):=rfl
theorem encI0 (n:Int):(qencI n)[0]? = some (.int .i64 n):=rfl
theorem AJS (m:Mo)(l:List Int)(k:Nat)(hk:k < l.length):szs m (l.take (k+1))=szs m (l.take k)++[(IU m l[k]).length]:=by
 unfold szs; rw[zL hk,List.map_append]; rfl
theorem XI (G:Nat→AV)(m:Mo)(c:Cr)(h:Hp)(hh:Here m c.pts)(hl:c.pts.length≤1048576):PCall (En G) 86 [.agg (EE m),.agg (G5 c)] h (.sl (nm (szs m c.pts)) 1 ((szs m c.pts).map KH)):=by
 refine N7 A22 ?_
 refine acN Tryz.func86 rfl ?_
 show awp _ _ _ _ _ (EJ _ [.tmp 4] _)
 simp -implicitDefEqProofs only[vQ,BD,↓reduceIte,jB,enP,JV,JO,bxM,bxC,DF MG,PU,jH]
 have hb0:(h++[ABlk.live 2 [EE m]]++[ABlk.live 3 [G5 c]])[h.length]? = some (.live 2 [EE m]):=CP (CZ _ _)
 refine DK (fun n F H => ∃ k,n+k=c.pts.length∧F 2 = .ptr h.length 0 0∧F 9 = .sl c.pm 1 (c.pts.map qencI)∧F 10 = .int .i64 c.pts.length∧F 11 = .int .i64 (k:Nat)∧H[h.length]? = some (.live 2 [EE m])∧ext h H∧(∀ b,isB (F 5) b→h.length < b)∧outG 1 KH h (szs m (c.pts.take k)) (F 5) H) c.pts.length ⟨0,by simp,by simp -implicitDefEqProofs only[AA,↓reduceIte,jB],by simp -implicitDefEqProofs only[AA,↓reduceIte,jB],by simp -implicitDefEqProofs only[AA,↓reduceIte,jB],by simp -implicitDefEqProofs only[AA,↓reduceIte]; rfl,hb0,((ext.rfl' h).app _).app _,fun b hb=>hb.elim,outG.nil _ _ _ _⟩ ?_
 rintro n F H ⟨k,hk,f2,f9,f10,f11,hb,he,hlt,ho⟩
 simp -implicitDefEqProofs only[vQ,BD,↓reduceIte,enP,f10,f11]
 refine CU (fun hc => ?_) (fun hc => ?_)
 ·have hk':k < c.pts.length:=by simpa using hc
  have lm:D5 Tryz.prog H 22 (.ptr h.length 0 0)=some (.sl m.pm 6 (m.pts.map GG)):=by rw[DU ZI hb (row:=EE m) rfl,RU]
  obtain⟨s,ls⟩:=hh.ld hk' H
  have hzl:(szs m (c.pts.take k)).length < 8388608:=by unfold szs; simp; omega
  obtain⟨v',H',ha,ho',hkeep,he',hle,hb'⟩:=ho.append XE sz3 ABL AAN (by omega) hzl he (IU m c.pts[k]).length
  simp -implicitDefEqProofs only[vQ,BD,↓reduceIte,jB,enP,QG,H7,JJ,QD,I4,f2,f9,f11,DL hk',C9 ag3 hk',encI0,lm,hh.ix hk',ls,jH,AO4]
  refine MI (v:=v') (h:=H') (by rw[show [[AV.int .i64 ((IU m c.pts[k]).length:Int)]] = [KH (IU m c.pts[k]).length] from rfl,ha]) ?_
  simp -implicitDefEqProofs only[vQ,BD,↓reduceIte,jB,enP,f11,wrap_succ (show k < 9223372036854775807 by omega)]
  refine⟨n - 1,by omega,k+1,by omega,f2,f9,f10,rfl,hkeep _ _ hb (fun e=>by have:=hlt _ e; omega),he',fun b hbb => ?_,?_⟩
  ·have:=hb' b hbb; have:=CB hb; omega
  ·rw[AJS m c.pts k hk']; exact ho'
 ·have hk' : ¬ k < c.pts.length:=by simpa using hc
  rw[jU (by omega)] at ho
  simp -implicitDefEqProofs only[vQ,BD,↓reduceIte,jB]
  exact⟨he,ho⟩
def JB (l:List Nat):Nat:=l.foldl (· * ·) 1
theorem XP (l:List Nat)(k:Nat)(hk:k < l.length):JB (l.take (k+1))=JB (l.take k) * l[k]:=by
 unfold JB; rw[zL hk,List.foldl_append]; rfl
theorem AKL (l:List Nat)(k:Nat)(h : ∀ n∈l,n≤64)(hk:l.length≤k):JB l≤64 ^ k:=by
 have gen : ∀ (l:List Nat) (a:Nat) (j:Nat),(∀ n∈l,n≤64)→a≤64 ^ j→l.foldl (· * ·) a≤64 ^ (j+l.length):=by
  intro l
  induction l with
  | nil=>intro a j _ ha; exact ha
  | cons x l ih =>
    intro a j hl ha
    rw[qX,List.length_cons,show j+(l.length+1)=(j+1)+l.length by omega]
    refine ih _ _ (fun n hn=>hl n (by simp [hn])) ?_
    rw[Nat.pow_succ]
    exact Nat.mul_le_mul ha (hl x (by simp))
 have:=gen l 1 0 h (by simp)
 rw[jG] at this
 exact qL this (Nat.pow_le_pow_right (by omega) hk)
theorem ANW (l:List Nat)(k:Nat)(h : ∀ n∈l,1≤n):JB (l.take k)≤JB l:=by
 have gen : ∀ (l:List Nat) (a:Nat),(∀ n∈l,1≤n)→a≤l.foldl (· * ·) a:=by
  intro l
  induction l with
  | nil=>intro a _; exact jL _
  | cons x l ih =>
    intro a hl
    rw[qX]
    refine qL ?_ (ih _ (fun n hn=>hl n (by simp [hn])))
    exact Nat.le_mul_of_pos_right a (hl x (by simp))
 have h2:JB l=(l.drop k).foldl (· * ·) (JB (l.take k)):=by
  unfold JB
  conv=>lhs; rw[← List.take_append_drop k l,List.foldl_append]
 rw[h2]
 exact gen _ _ (fun n hn=>h n (List.mem_of_mem_drop hn))
theorem YM (G:Nat→AV)(l:List Nat)(s:SM)(h:Hp)(hl : ∀ n∈l,n≤64)(hk:l.length≤4):PCall (En G) 87 [.sl s 1 (l.map KH)] h (.int .i64 (JB l)):=by
 refine acN Tryz.func87 rfl ?_
 show awp _ _ _ _ _ (EJ _ [.tmp 2] _)
 simp -implicitDefEqProofs only[vQ,BD,↓reduceIte,jB,enP,JV,jH]
 have hp : ∀ k,JB (l.take k)≤16777216:=fun k=>by
  have:=AKL (l.take k) 4 (fun n hn=>hl n (List.mem_of_mem_take hn)) (by rw[zF]; omega)
  simpa using this
 refine DK (fun n F H => ∃ k,n+k=l.length∧F 3 = .int .i64 (JB (l.take k))∧F 6 = .sl s 1 (l.map KH)∧F 7 = .int .i64 l.length∧F 8 = .int .i64 (k:Nat)∧H=h) l.length ⟨0,by simp,by simp -implicitDefEqProofs only[AA,↓reduceIte,jB]; rfl,by simp -implicitDefEqProofs only[AA,↓reduceIte,jB],by simp -implicitDefEqProofs only[AA,↓reduceIte,jB],by simp -implicitDefEqProofs only[AA,↓reduceIte]; rfl,rfl⟩ ?_
 rintro n F H ⟨k,hk,f3,f6,f7,f8,rfl⟩
 simp -implicitDefEqProofs only[vQ,BD,↓reduceIte,enP,f7,f8]
 refine CU (fun hc => ?_) (fun hc => ?_)
 ·have hk':k < l.length:=by simpa using hc
  have h1:=hp (k+1)
  rw[XP l k hk'] at h1
  have hw:IntKind.i64.wrap ((JB (l.take k):Int) * (l[k]:Int))=((JB (l.take (k+1)):Nat):Int):=by
   rw[XP l k hk',← Int.natCast_mul,NE (by omega)]
  simp -implicitDefEqProofs only[vQ,BD,SA,↓reduceIte,jB,enP,JJ,f3,f6,f8,DL hk',C9 ag3 hk',encN0,hw,wrap_succ (show k < 9223372036854775807 by omega)]
  exact⟨n - 1,by omega,k+1,by omega,rfl,trivial,f7,rfl,trivial⟩
 ·have hk' : ¬ k < l.length:=by simpa using hc
  rw[jU (by omega)] at f3
  simp -implicitDefEqProofs only[vQ,BD,↓reduceIte,jB,f3]
  exact⟨trivial,trivial⟩
def JK:List Nat→List Int→Bool
 | [],[]=>true
 | n :: ns,x :: xs=>decide (0≤x) && decide (x < (n:Int)) && JK ns xs
 | _,_=>false
theorem AVS (ns:List Nat):JK ns []=(ns.length == 0):=by cases ns <;> rfl
theorem NK : ∀ {ns:List Nat} {xs:List Int},JK ns xs=true→ns.length=xs.length
 | [],[],_=>rfl
 | n :: ns,x :: xs,h=>by
   simp only[JK,jX] at h
   simp [NK h.2]
 | [],_ :: _,h=>by cases h
 | _ :: _,[],h=>by cases h
theorem inside_prog (G:Nat→AV)(ns:List Nat)(xs:List Int)(s t:SM)(h:Hp)(hn:ns.length≤1048576):PCall (En G) 90 [.sl s 1 (ns.map KH),.sl t 1 (xs.map qencI)] h (.bool (JK ns xs)):=by
 refine acN Tryz.func90 rfl ?_
 show awp _ _ _ _ _ (EJ _ [.tmp 4] _)
 simp -implicitDefEqProofs only[vQ,BD,↓reduceIte,jB,enP,JV,jH]
 refine DK (fun n F H => ∃ k,n+k=xs.length∧k≤ns.length∧F 0 = .sl s 1 (ns.map KH)∧F 1 = .sl t 1 (xs.map qencI)∧F 7 = .sl t 1 (xs.map qencI)∧F 8 = .int .i64 xs.length∧F 9 = .int .i64 (k:Nat)∧H=h∧JK ns xs=JK (ns.drop k) (xs.drop k)) xs.length ⟨0,by simp,by simp,by simp -implicitDefEqProofs only[vQ,↓reduceIte,jB],by simp -implicitDefEqProofs only[vQ,↓reduceIte,jB],by simp -implicitDefEqProofs only[AA,↓reduceIte,jB],by simp -implicitDefEqProofs only[AA,↓reduceIte,jB],by simp -implicitDefEqProofs only[AA,↓reduceIte]; rfl,rfl,rfl⟩ ?_
 rintro n F H ⟨k,hk,hkn,f0,f1,f7,f8,f9,rfl,hi⟩
 simp -implicitDefEqProofs only[vQ,BD,↓reduceIte,enP,f8,f9]
 refine CU (fun hc => ?_) (fun hc => ?_)
 ·have hk':k < xs.length:=by simpa using hc
  rw[zN hk'] at hi
  simp -implicitDefEqProofs only[vQ,CO,BD,↓reduceIte,jB,enP,JJ,JV,f0,f7,f9,DL hk',C9 ag3 hk',encI0,jH]
  refine IQ (fun ha => ?_) (fun ha => ?_)
  ·simp -implicitDefEqProofs only[vQ,CO,BD,EY,↓reduceIte,jB,ha]
   have:ns.length≤k:=by simp at ha; omega
   rw[jZ this] at hi
   exact⟨by rw[hi]; rfl,trivial⟩
  have hkn':k < ns.length:=by simp at ha; omega
  rw[zN hkn'] at hi
  simp -implicitDefEqProofs only[vQ,CO,BD,↓reduceIte,jB,enP,ha]
  refine IQ (fun hb => ?_) (fun hb => ?_)
  ·simp -implicitDefEqProofs only[vQ,CO,BD,EY,↓reduceIte,jB,hb]
   have:decide (0≤xs[k])=false:=by simp at hb ⊢; omega
   exact⟨by rw[hi]; unfold JK; rw[this]; rfl,trivial⟩
  have h0:decide (0≤xs[k])=true:=by simp at hb ⊢; omega
  simp -implicitDefEqProofs only[vQ,CO,BD,↓reduceIte,jB,enP,JJ,hb,f0,DL hkn',C9 ag3 hkn',encN0]
  refine CU (fun hd => ?_) (fun hd => ?_)
  ·simp -implicitDefEqProofs only[vQ,BD,↓reduceIte]
   have:decide (xs[k] < (ns[k]:Int))=false:=by simp at hd ⊢; omega
   exact⟨by rw[hi]; unfold JK; rw[this,h0]; rfl,trivial⟩
  have h1:decide (xs[k] < (ns[k]:Int))=true:=by simp at hd ⊢; omega
  simp -implicitDefEqProofs only[vQ,BD,↓reduceIte,jB,enP,f9,wrap_succ (show k < 9223372036854775807 by omega)]
  refine⟨n - 1,by omega,k+1,by omega,by omega,f0,f1,f7,f8,rfl,trivial,?_⟩
  rw[hi]
  conv=>lhs; unfold JK
  rw[h0,h1]; rfl
 ·have hk' : ¬ k < xs.length:=by simpa using hc
  simp -implicitDefEqProofs only[vQ,BD,↓reduceIte,jB,enP,JV,f0,f1,jH]
  refine⟨?_,trivial⟩
  rw[hi,jZ (show xs.length≤k by omega),AVS,List.length_drop]
  congr 1
  rw[Bool.eq_iff_iff]; simp; omega
theorem ALJ (G:Nat→AV)(xs:List Is)(m:SM)(fid:FuncId)(caps:List AV)(p:Is→Bool)(h:Hp)(hl:xs.length≤1099511627776)
  (hf : ∀ r,PCall (En G) fid (.sl r.m 1 (r.l.map qencI) :: caps) h (.bool (p r))) :
  PCall (En G) 134 [.sl m 1 (xs.map encL),.fn (.func fid) [] caps] h (.int .i64 (match xs.findIdx? p with | some i=>(i:Int) | none => -1)):=by
 refine acN Tryz.func134 rfl ?_
 show awp _ _ _ _ _ (EJ _ [.tmp 4] _)
 simp -implicitDefEqProofs only[vQ,BD,↓reduceIte,jB,enP,AOA,jH]
 refine DK (fun n F H => ∃ k,n+k=xs.length∧F 0 = .sl m 1 (xs.map encL)∧F 1 = .fn (.func fid) [] caps∧F 7 = .int .i64 xs.length∧F 8 = .int .i64 (k:Nat)∧H=h∧(xs.take k).all (fun r => !p r)=true) xs.length ⟨0,by simp,rfl,rfl,rfl,rfl,rfl,rfl⟩ ?_
 rintro n F H ⟨k,hk,f0,f1,f7,f8,rfl,hin⟩
 simp -implicitDefEqProofs only[vQ,BD,↓reduceIte,enP,f0,f1,f7,f8,jH]
 refine CU (fun hc => ?_) (fun hc => ?_)
 ·have hc':k < xs.length:=by simpa using hc
  simp -implicitDefEqProofs only[vQ,BD,List.nil_append,List.cons_append,↓reduceIte,jB,enP,ABQ,f0,f1,f7,f8,DL hc',C9 MG hc',AL2]
  refine(hf _).use ?_
  simp -implicitDefEqProofs only[vQ,↓reduceIte]
  refine CU (fun hb => ?_) (fun hb => ?_)
  ·simp -implicitDefEqProofs only[vQ,BD,↓reduceIte,jB]
   refine⟨?_,trivial⟩
   rw[qZ.2 ⟨hc',hb,fun j hj=>by
    rw[zH] at hin
    have:=hin xs[j] (by rw[List.mem_take_iff_getElem]; exact⟨j,by omega,rfl⟩)
    simpa using this⟩]
  ·simp -implicitDefEqProofs only[vQ,BD,↓reduceIte,jB,enP,f8,wrap_succ (show k < 9223372036854775807 by omega)]
   refine⟨n - 1,by omega,k+1,by omega,f0,f1,f7,rfl,trivial,?_⟩
   rw[zL hc',List.all_append,hin]
   simp only[List.all_cons,List.all_nil,hb]; rfl
 ·have hc' : ¬ k < xs.length:=by simpa using hc
  simp -implicitDefEqProofs only[vQ,BD,↓reduceIte]
  refine⟨?_,trivial⟩
  rw[jU (by omega)] at hin
  rw[wC.2 (by simpa using hin)]
theorem Q5 (G:Nat→AV)(xs:List Is)(m:SM)(fid:FuncId)(caps:List AV)(p:Is→Bool)(h:Hp)(hl:xs.length≤1099511627776)
  (hf : ∀ r,PCall (En G) fid (.sl r.m 1 (r.l.map qencI) :: caps) h (.bool (p r))) :
  PCall (En G) 88 [.sl m 1 (xs.map encL),.fn (.func fid) [] caps] h (.bool (xs.any p)):=by
 refine acN Tryz.func88 rfl ?_
 show awp _ _ _ _ _ (EJ _ [.tmp 4] _)
 simp -implicitDefEqProofs only[vQ,BD,↓reduceIte,jB,enP]
 refine(ALJ G xs m fid caps p h hl hf).use ?_
 simp -implicitDefEqProofs only[vQ,BD,↓reduceIte,enP]
 refine⟨?_,trivial⟩
 cases hx:xs.findIdx? p with
 | some i =>
   obtain⟨h1,h2,_⟩:=qZ.1 hx
   have:xs.any p=true:=List.any_eq_true.2 ⟨xs[i],by simp,h2⟩
   simp [this]
 | none =>
   have:xs.any p=false:=by
    rw[wC] at hx
    rw[wQ]; intro x hx2; simp [hx x hx2]
   simp [this]
theorem AH2 (G:Nat→AV)(ns:List Nat)(s:SM)(b:Nat)(r:Is)(h:Hp)(hb:h[b]? = some (.live 1 [[.sl s 1 (ns.map KH)]]))(hn:ns.length≤1048576) :
  PCall (En G) 89 [.sl r.m 1 (r.l.map qencI),.ptr b 0 0] h (.bool (!JK ns r.l)):=by
 refine acN Tryz.func89 rfl ?_
 show awp _ _ _ _ _ (EJ _ [.tmp 3] _)
 simp -implicitDefEqProofs only[vQ,BD,↓reduceIte,jB,enP,JW MG hb]
 refine(inside_prog G ns r.l s r.m h hn).use ?_
 simp -implicitDefEqProofs only[vQ,BD,↓reduceIte]
 exact⟨trivial,trivial⟩
def VS (n:Nat):Option Int→List Int→Bool
 | _,[]=>true
 | o,p :: ps=>(decide (0≤p) && decide (p < (n:Int)) && (match o with | some q=>decide (q < p) | none=>true)) && VS n (some p) ps
def prev (l:List Int)(k:Nat):Option Int:=match k with
 | 0=>none
 | k+1=>l[k]?
theorem AGZ (n:Nat)(l:List Int)(k:Nat)(hk:k < l.length):VS n (prev l k) (l.drop k)=((decide (0≤l[k]) && decide (l[k] < (n:Int)) && (match prev l k with | some q=>decide (q < l[k]) | none=>true)) && VS n (prev l (k+1)) (l.drop (k+1))):=by
 rw[zN hk]
 have:prev l (k+1)=some l[k]:=by unfold prev; exact jO hk
 rw[this]; rfl
theorem WC {m:Mo} : ∀ {l:List Int} {o:Option Int},VS m.pts.length o l=true→Here m l
 | [],_,_=>fun p hp=>by cases hp
 | x :: l,o,h=>by
   simp only[VS,jX,decide_eq_true_eq] at h
   intro p hp
   cases qN.1 hp with
   | inl e=>subst e; exact⟨h.1.1.1,h.1.1.2⟩
   | inr e=>exact WC h.2 p e
def IJ (m:Mo)(c:Cr):Int :=
 if IA c.name=false then 7 else if c.pts.length < 2∨4 < c.pts.length then 1 else if VS m.pts.length none c.pts=false then 1 else
  if 256 < JB (szs m c.pts)∨256 < c.excl.length then 2 else if(c.excl.any fun x => !JK (szs m c.pts) x.l) then 1 else 0
structure CrOk (c:Cr):Prop where
 name:c.name.size≤1048576
 pts:c.pts.length≤1048576
 excl:c.excl.length≤1048576
 each : ∀ x∈c.excl,x.l.length≤1048576
def Full (m:Mo):Prop := ∀ p∈m.pts,1≤p.bins.length∧p.bins.length≤64
theorem Full.szs {m:Mo}{l:List Int}(hf:Full m)(hh:Here m l) : ∀ n∈szs m l,1≤n∧n≤64:=by
 intro n hn
 obtain⟨p,hp,rfl⟩:=zI.1 hn
 obtain⟨h0,h1⟩:=hh p hp
 have hlt:p.toNat < m.pts.length:=by omega
 have:IU m p=(m.pts[p.toNat]).bins:=by unfold IU; rw[jO hlt]
 rw[this]
 exact hf _ (jS hlt)
theorem A7P (h:Hp):KG Tryz.prog h 26=some (.ptr h.length 0 0,h++[.live 1 [[.sl .nil 0 []]]]):=J4 (row := [.sl .nil 0 []]) (by kernel_rfl)
theorem ldM {h:Hp}{b:Nat}{m:Mo}(hb:h[b]? = some (.live 2 [EE m])):D5 Tryz.prog h 25 (.ptr b 0 0)=some (.agg (EE m)):=by
 rw[GV A6D A2H hb rfl (by rw[AWA]; exact jL 2)]; rfl
theorem ldC {h:Hp}{b:Nat}{c:Cr}(hb:h[b]? = some (.live 3 [G5 c])):D5 Tryz.prog h 69 (.ptr b 0 0)=some (.agg (G5 c)):=by
 rw[GV AI5 ACI hb rfl (by rw[LM]; exact jL 3)]; rfl
theorem AOV (G:Nat→AV)(hG:GOk G)(m:Mo)(c:Cr)(hc:CrOk c)(hf:Full m)(h:Hp):PCall (En G) 53 [.agg (EE m),.agg (G5 c)] h (.int .i64 (IJ m c)):=by
 refine ACalls.pure0 rfl ?_
 have hc1:=hc.name
 have hc2:=hc.pts
 have hc3:=hc.excl
 refine acN Tryz.func53 rfl ?_
 show awp _ _ _ _ _ (EJ _ [.tmp 4] _)
 have gm:(h++[ABlk.live 2 [EE m]]++[ABlk.live 3 [G5 c]])[h.length]? = some (.live 2 [EE m]):=CP (CZ _ _)
 have gc:(h++[ABlk.live 2 [EE m]]++[ABlk.live 3 [G5 c]])[(h++[ABlk.live 2 [EE m]]).length]? = some (.live 3 [G5 c]):=CZ _ _
 have hx : ∃ x,h++[ABlk.live 2 [EE m]]++[ABlk.live 3 [G5 c]]=h++x:=⟨_,zD _ _ _⟩
 have hlt:h.length < (h++[ABlk.live 2 [EE m]]).length:=by simp
 simp -implicitDefEqProofs only[vQ,BD,↓reduceIte,jB,enP,ADZ,bxM,bxC]
 generalize h++[ABlk.live 2 [EE m]]++[ABlk.live 3 [G5 c]]=H at gm gc hx ⊢
 generalize (h++[ABlk.live 2 [EE m]]).length=cb at gc hlt ⊢
 have lm:D5 Tryz.prog H 22 (.ptr h.length 0 0)=some (.sl m.pm 6 (m.pts.map GG)):=by rw[DU ZI gm (row:=EE m) rfl,RU]
 have lc0:D5 Tryz.prog H 9 (.ptr cb 0 0)=some (.str c.name):=by rw[DU ag9 gc (row:=G5 c) rfl,AL4]
 have lc1:D5 Tryz.prog H 26 (.ptr cb 0 1)=some (.sl c.pm 1 (c.pts.map qencI)):=by rw[DU MG gc (row:=G5 c) rfl,PU]
 have lc2:D5 Tryz.prog H 67 (.ptr cb 0 2)=some (.sl c.xm 1 (c.excl.map encL)):=by rw[DU UN gc (row:=G5 c) rfl,AQZ]
 simp -implicitDefEqProofs only[vQ,BD,↓reduceIte,lc0]
 refine(N8 G hG.kw c.name _ (by omega)).use ?_
 simp -implicitDefEqProofs only[vQ,BD,↓reduceIte]
 cases h1:IA c.name
 ·simp -implicitDefEqProofs only[vQ,BD,↓reduceIte]
  exact⟨by unfold IJ; rw[if_pos h1],hx⟩
 have h1' : ¬ IA c.name=false:=by rw[h1]; decide
 simp -implicitDefEqProofs only[vQ,CO,BD,↓reduceIte,jB,jV,enP,JV,JO,lc1,jH]
 refine IQ (fun h2 => ?_) (fun h2 => ?_)
 ·simp -implicitDefEqProofs only[vQ,CO,BD,EY,↓reduceIte,jB,h2]
  exact⟨by unfold IJ; rw[if_neg h1',if_pos (.inl (by simp at h2; omega))],hx⟩
 simp -implicitDefEqProofs only[vQ,CO,BD,↓reduceIte,jB,enP,JV,JO,h2,lc1,jH]
 refine CU (fun h3 => ?_) (fun h3 => ?_)
 ·simp -implicitDefEqProofs only[vQ,BD,↓reduceIte]
  exact⟨by unfold IJ; rw[if_neg h1',if_pos (.inr (by simp at h3; omega))],hx⟩
 have h23 : ¬ (c.pts.length < 2∨4 < c.pts.length):=by simp at h2 h3; omega
 simp -implicitDefEqProofs only[vQ,BD,↓reduceIte,jB,enP,JV,JO,lc1,jH]
 refine G6 0 (fun F H'=>F 2 = .ptr h.length 0 0∧F 3 = .ptr cb 0 0∧H'=H∧VS m.pts.length none c.pts=true) (fun F H'=>F 4 = .int .i64 1∧H'=H∧VS m.pts.length none c.pts=false) ?_ ?_ ?_
 ·refine DK (fun n F H' => ∃ k,n+k=c.pts.length∧F 2 = .ptr h.length 0 0∧F 3 = .ptr cb 0 0∧F 23 = .sl c.pm 1 (c.pts.map qencI)∧F 24 = .int .i64 c.pts.length∧F 25 = .int .i64 (k:Nat)∧H'=H∧VS m.pts.length none c.pts=VS m.pts.length (prev c.pts k) (c.pts.drop k)) c.pts.length ⟨0,by simp,by simp -implicitDefEqProofs only[AA,↓reduceIte,jB],by simp -implicitDefEqProofs only[AA,↓reduceIte,jB],by simp -implicitDefEqProofs only[AA,↓reduceIte,jB],by simp -implicitDefEqProofs only[AA,↓reduceIte,jB],by simp -implicitDefEqProofs only[AA,↓reduceIte]; rfl,rfl,rfl⟩ ?_
  rintro n F H' ⟨k,hk,f2,f3,f23,f24,f25,rfl,hi⟩
  simp -implicitDefEqProofs only[vQ,BD,↓reduceIte,enP,f24,f25]
  refine CU (fun hlt => ?_) (fun hlt => ?_)
  ·have hk':k < c.pts.length:=by simpa using hlt
   rw[AGZ _ _ _ hk'] at hi
   simp -implicitDefEqProofs only[vQ,CO,BD,↓reduceIte,jB,enP,JJ,f2,f3,f23,f25,DL hk',C9 ag3 hk',encI0]
   refine IQ (fun ha => ?_) (fun ha => ?_)
   ·simp -implicitDefEqProofs only[vQ,CO,BD,EY,↓reduceIte,jB,ha]
    have:decide (0≤c.pts[k])=false:=by simp at ha ⊢; omega
    exact⟨trivial,trivial,by rw[hi,this]; rfl⟩
   have ha':decide (0≤c.pts[k])=true:=by simp at ha ⊢; omega
   simp -implicitDefEqProofs only[vQ,CO,BD,↓reduceIte,jB,enP,PZ,H7,ha,f2,lm,jH]
   refine IQ (fun hb => ?_) (fun hb => ?_)
   ·simp -implicitDefEqProofs only[vQ,CO,BD,EY,↓reduceIte,jB,hb]
    have:decide (c.pts[k] < (m.pts.length:Int))=false:=by simp at hb ⊢; omega
    exact⟨trivial,trivial,by rw[hi,this,ha']; rfl⟩
   have hb':decide (c.pts[k] < (m.pts.length:Int))=true:=by simp at hb ⊢; omega
   rw[ha',hb'] at hi
   simp only[qO] at hi
   cases k with
   | zero =>
     have hz:decide ((((0:Nat):Int)) > 0)=false:=by decide
     simp -implicitDefEqProofs only[vQ,CO,BD,EY,↓reduceIte,jB,enP,hb,hz,f25,wrap_succ (show 0 < 9223372036854775807 by omega)]
     exact⟨n - 1,by omega,1,by omega,f2,f3,f23,f24,rfl,trivial,by rw[hi]; rfl⟩
   | succ k =>
     have hz:decide ((((k+1:Nat):Int)) > 0)=true:=by simp
     have hw:IntKind.i64.wrap (((k+1:Nat):Int) - 1)=(k:Int):=by rw[wrap_i64 (by omega) (by omega)]; omega
     have hk2:k < c.pts.length:=by omega
     have hpv:prev c.pts (k+1)=some c.pts[k]:=by unfold prev; exact jO hk2
     rw[hpv] at hi
     simp -implicitDefEqProofs only[vQ,CO,BD,↓reduceIte,jB,enP,JJ,JO,hb,hz,f3,lc1,hw,DL hk2,C9 ag3 hk2,encI0]
     refine CU (fun hd => ?_) (fun hd => ?_)
     ·simp -implicitDefEqProofs only[vQ,BD,↓reduceIte]
      have:decide (c.pts[k] < c.pts[k+1])=false:=by simp at hd ⊢; omega
      exact⟨trivial,trivial,by rw[hi]; simp only[this]; rfl⟩
     ·simp -implicitDefEqProofs only[vQ,BD,↓reduceIte,jB,enP,f25,wrap_succ (show k+1 < 9223372036854775807 by omega)]
      have:decide (c.pts[k] < c.pts[k+1])=true:=by simp at hd ⊢; omega
      exact⟨n - 1,by omega,k+1+1,by omega,f2,f3,f23,f24,rfl,trivial,by rw[hi]; simp only[this]; rfl⟩
  ·have hk' : ¬ k < c.pts.length:=by simpa using hlt
   simp -implicitDefEqProofs only[vQ,↓reduceIte,jB]
   exact⟨f2,f3,trivial,by rw[hi,jZ (by omega)]; rfl⟩
 ·rintro F H' ⟨f2,f3,rfl,hi⟩
  have hh:=WC hi
  have hi' : ¬ VS m.pts.length none c.pts=false:=by rw[hi]; decide
  simp -implicitDefEqProofs only[vQ,BD,↓reduceIte,jB,enP,f2,f3,ldM gm,ldC gc]
  refine(XI G m c _ hh (by omega)).use ?_
  have hsz:(szs m c.pts).length≤4:=by unfold szs; simp; omega
  have hst:=RI (t:=26) (v := .sl .nil 0 []) (u := .sl (nm (szs m c.pts)) 1 ((szs m c.pts).map KH)) AJT (AXN _ _ _) (CZ H' (.live 1 [[.sl .nil 0 []]]))
  rw[AHU] at hst
  simp -implicitDefEqProofs only[vQ,BD,↓reduceIte,jB,enP,jT,A7P,hst,JW MG (CZ H' _)]
  refine(YM G _ _ _ (fun n hn=>(hf.szs hh n hn).2) hsz).use ?_
  have hx2 : ∃ x,H'++[ABlk.live 1 [[AV.sl (nm (szs m c.pts)) 1 ((szs m c.pts).map KH)]]]=h++x:=by
   obtain⟨x,hx⟩:=hx
   exact⟨x++_,by rw[hx,zD]⟩
  have lc2' : ∀ x,D5 Tryz.prog (H'++[x]) 67 (.ptr cb 0 2)=some (.sl c.xm 1 (c.excl.map encL)):=fun x=>by rw[DU UN (CP gc) (row:=G5 c) rfl,AQZ]
  simp -implicitDefEqProofs only[vQ,CO,BD,↓reduceIte,enP]
  refine IQ (fun ha => ?_) (fun ha => ?_)
  ·simp -implicitDefEqProofs only[vQ,CO,BD,EY,↓reduceIte,jB,ha]
   exact⟨by unfold IJ; rw[if_neg h1',if_neg h23,if_neg hi',if_pos (.inl (by simp at ha; omega))],hx2⟩
  simp -implicitDefEqProofs only[vQ,CO,BD,↓reduceIte,jB,enP,AOA,SQ,ha,f3,lc2',jH]
  refine CU (fun hb => ?_) (fun hb => ?_)
  ·simp -implicitDefEqProofs only[vQ,BD,↓reduceIte]
   exact⟨by unfold IJ; rw[if_neg h1',if_neg h23,if_neg hi',if_pos (.inr (by simp at hb; omega))],hx2⟩
  have hab : ¬ (256 < JB (szs m c.pts)∨256 < c.excl.length):=by simp at ha hb; omega
  simp -implicitDefEqProofs only[vQ,BD,IM,↓reduceIte,jB,enP,SQ,f3,lc2']
  refine(Q5 G c.excl c.xm 89 _ (fun x => !JK (szs m c.pts) x.l) _ (by omega) fun r=>AH2 G _ _ _ r _ (CZ H' _) (by omega)).use ?_
  simp -implicitDefEqProofs only[vQ,BD,↓reduceIte]
  cases he:c.excl.any fun x => !JK (szs m c.pts) x.l
  ·simp -implicitDefEqProofs only[vQ,BD,↓reduceIte]
   exact⟨by unfold IJ; rw[if_neg h1',if_neg h23,if_neg hi',if_neg hab,he]; rfl,hx2⟩
  ·simp -implicitDefEqProofs only[vQ,BD,↓reduceIte]
   exact⟨by unfold IJ; rw[if_neg h1',if_neg h23,if_neg hi',if_neg hab,he]; rfl,hx2⟩
 ·rintro F H' ⟨f4,rfl,hi⟩
  simp -implicitDefEqProofs only[vQ,f4]
  exact⟨by unfold IJ; rw[if_neg h1',if_neg h23,if_pos hi],hx⟩
theorem ABX (m:Mo)(l:List Int)(k:Nat)(hk:k < l.length):(szs m l)[k]? = some (IU m l[k]).length:=by
 unfold szs; rw[jY,jO hk]; rfl
theorem LY (m:Mo)(l:List Int):(szs m l).length=l.length:=by unfold szs; simp
structure Two (h H:Hp) (m:Mo) (c:Cr) (cb:Nat):Prop where
 gm:H[h.length]? = some (.live 2 [EE m])
 gc:H[cb]? = some (.live 3 [G5 c])
 hx : ∃ x,H=h++x
theorem Two.lm {h H:Hp}{m:Mo}{c:Cr}{cb:Nat}(t:Two h H m c cb):D5 Tryz.prog H 22 (.ptr h.length 0 0)=some (.sl m.pm 6 (m.pts.map GG)):=by rw[DU ZI t.gm (row:=EE m) rfl,RU]
theorem Two.l0 {h H:Hp}{m:Mo}{c:Cr}{cb:Nat}(t:Two h H m c cb):D5 Tryz.prog H 9 (.ptr cb 0 0)=some (.str c.name):=by rw[DU ag9 t.gc (row:=G5 c) rfl,AL4]
theorem Two.l1 {h H:Hp}{m:Mo}{c:Cr}{cb:Nat}(t:Two h H m c cb):D5 Tryz.prog H 26 (.ptr cb 0 1)=some (.sl c.pm 1 (c.pts.map qencI)):=by rw[DU MG t.gc (row:=G5 c) rfl,PU]
theorem Two.l2 {h H:Hp}{m:Mo}{c:Cr}{cb:Nat}(t:Two h H m c cb):D5 Tryz.prog H 67 (.ptr cb 0 2)=some (.sl c.xm 1 (c.excl.map encL)):=by rw[DU UN t.gc (row:=G5 c) rfl,AQZ]
theorem Two.mk' (h:Hp)(m:Mo)(c:Cr):Two h (h++[.live 2 [EE m]]++[.live 3 [G5 c]]) m c (h++[ABlk.live 2 [EE m]]).length:=⟨CP (CZ _ _),CZ _ _,⟨_,zD _ _ _⟩⟩
theorem AS9 (G:Nat→AV)(m:Mo)(c:Cr)(h:Hp)(hh:Here m c.pts)(hf:Full m)(hl:c.pts.length≤1048576):PCall (En G) 96 [.agg (EE m),.agg (G5 c)] h (.int .i64 (min (JB (szs m c.pts)) 1000)):=by
 refine ACalls.pure0 rfl ?_
 refine acN Tryz.func96 rfl ?_
 show awp _ _ _ _ _ (EJ _ [.tmp 4] _)
 have t:=Two.mk' h m c
 simp -implicitDefEqProofs only[vQ,BD,↓reduceIte,jB,enP,bxM,bxC]
 generalize h++[ABlk.live 2 [EE m]]++[ABlk.live 3 [G5 c]]=H at t ⊢
 generalize (h++[ABlk.live 2 [EE m]]).length=cb at t ⊢
 have hs:=hf.szs hh
 refine G6 0 (fun F H'=>(F 5 = .int .i64 (JB (szs m c.pts):Nat)∨∃ n:Nat,1000≤n∧n≤JB (szs m c.pts)∧F 5 = .int .i64 n)∧H'=H) (fun _ _=>False) ?_ ?_ (fun _ _ hh=>hh.elim)
 ·refine DK (fun n F H' => ∃ k,n+k=c.pts.length∧F 2 = .ptr h.length 0 0∧F 3 = .ptr cb 0 0∧F 5 = .int .i64 (JB ((szs m c.pts).take k):Nat)∧F 6 = .int .i64 (k:Nat)∧H'=H) c.pts.length ⟨0,by simp,by simp -implicitDefEqProofs only[AA,↓reduceIte,jB],by simp -implicitDefEqProofs only[AA,↓reduceIte,jB],by simp -implicitDefEqProofs only[AA,↓reduceIte,jB]; rfl,by simp -implicitDefEqProofs only[AA,↓reduceIte]; rfl,rfl⟩ ?_
  rintro n F H' ⟨k,hk,f2,f3,f5,f6,rfl⟩
  simp -implicitDefEqProofs only[vQ,CO,BD,↓reduceIte,jB,enP,JV,JO,f3,f6,t.l1,jH]
  refine IQ (fun ha => ?_) (fun ha => ?_)
  ·have hk':k < c.pts.length:=by simpa using ha
   simp -implicitDefEqProofs only[vQ,CO,BD,↓reduceIte,jB,enP,ha,f5]
   refine CU (fun hb => ?_) (fun hb => ?_)
   ·have hb':JB ((szs m c.pts).take k) < 1000:=by simp at hb; omega
    obtain⟨s,ls⟩:=hh.ld hk' H'
    have hks:k < (szs m c.pts).length:=by rw[LY]; exact hk'
    have hgt:(szs m c.pts)[k]=(IU m c.pts[k]).length:=IE (ABX m c.pts k hk')
    have h64:=(hs _ (jS hks)).2
    rw[hgt] at h64
    have hpt:=XP (szs m c.pts) k hks
    rw[hgt] at hpt
    have hmul:JB ((szs m c.pts).take k) * (IU m c.pts[k]).length≤1000 * 64:=Nat.mul_le_mul (by omega) h64
    have hw:IntKind.i64.wrap ((JB ((szs m c.pts).take k):Int) * ((IU m c.pts[k]).length:Int))=((JB ((szs m c.pts).take (k+1)):Nat):Int):=by
     rw[hpt,← Int.natCast_mul,NE (by omega)]
    simp -implicitDefEqProofs only[vQ]
    refine ET (by kernel_rfl) ?_
    simp -implicitDefEqProofs only[vQ,BD,SA,↓reduceIte,jB,jP,enP,QG,H7,JJ,QD,I4,JO,f2,f3,f5,f6,t.lm,t.l1,DL hk',C9 ag3 hk',encI0,hh.ix hk',ls,jH,hw,wrap_succ (show k < 9223372036854775807 by omega)]
    exact⟨n - 1,by omega,k+1,by omega,trivial,trivial,rfl,rfl,trivial⟩
   ·simp -implicitDefEqProofs only[vQ,↓reduceIte,jB]
    exact⟨.inr ⟨_,by simp at hb; omega,ANW _ _ (fun n hn=>(hs n hn).1),f5⟩,trivial⟩
  ·have hk' : ¬ k < c.pts.length:=by simpa using ha
   simp -implicitDefEqProofs only[vQ,CO,BD,EY,↓reduceIte,jB,ha]
   refine⟨.inl ?_,trivial⟩
   rw[jU (by rw[LY]; omega)] at f5
   exact f5
 ·rintro F H' ⟨f5,rfl⟩
  rcases f5 with f5 | ⟨n,h1,h2,f5⟩
  ·simp -implicitDefEqProofs only[vQ,BD,AF1,ZX,↓reduceIte,f5]
   exact⟨trivial,t.hx⟩
  ·simp -implicitDefEqProofs only[vQ,BD,AF1,ZX,↓reduceIte,f5]
   exact⟨by congr 1; omega,t.hx⟩
def placed (m:Mo)(c:Cr):Bool:=decide (2≤c.pts.length) && decide (c.pts.length≤4) && VS m.pts.length none c.pts
theorem AN1 (G:Nat→AV)(m:Mo)(c:Cr)(h:Hp)(hl:c.pts.length≤1048576):PCall (En G) 95 [.agg (EE m),.agg (G5 c)] h (.bool (placed m c)):=by
 refine ACalls.pure0 rfl ?_
 refine acN Tryz.func95 rfl ?_
 show awp _ _ _ _ _ (EJ _ [.tmp 4] _)
 have t:=Two.mk' h m c
 simp -implicitDefEqProofs only[vQ,BD,↓reduceIte,jB,enP,JO,bxM,bxC]
 generalize h++[ABlk.live 2 [EE m]]++[ABlk.live 3 [G5 c]]=H at t ⊢
 generalize (h++[ABlk.live 2 [EE m]]).length=cb at t ⊢
 simp -implicitDefEqProofs only[vQ,CO,BD,↓reduceIte,enP,JV,t.l1,jH]
 refine IQ (fun h2 => ?_) (fun h2 => ?_)
 ·simp -implicitDefEqProofs only[vQ,CO,BD,EY,↓reduceIte,jB,h2]
  have:decide (2≤c.pts.length)=false:=by simp at h2 ⊢; omega
  exact⟨by unfold placed; rw[this]; rfl,t.hx⟩
 have d2:decide (2≤c.pts.length)=true:=by simp at h2 ⊢; omega
 simp -implicitDefEqProofs only[vQ,CO,BD,↓reduceIte,jB,enP,JV,JO,h2,t.l1,jH]
 refine CU (fun h3 => ?_) (fun h3 => ?_)
 ·simp -implicitDefEqProofs only[vQ,BD,↓reduceIte]
  have:decide (c.pts.length≤4)=false:=by simp at h3 ⊢; omega
  exact⟨by unfold placed; rw[this]; simp,t.hx⟩
 have d3:decide (c.pts.length≤4)=true:=by simp at h3 ⊢; omega
 have hpl:placed m c=VS m.pts.length none c.pts:=by unfold placed; rw[d2,d3]; rfl
 rw[hpl]
 simp -implicitDefEqProofs only[vQ,BD]
 refine DK (fun n F H' => ∃ k,n+k=c.pts.length∧F 2 = .ptr h.length 0 0∧F 3 = .ptr cb 0 0∧F 5 = .int .i64 (k:Nat)∧H'=H∧VS m.pts.length none c.pts=VS m.pts.length (prev c.pts k) (c.pts.drop k)) c.pts.length ⟨0,by simp,by simp -implicitDefEqProofs only[AA,↓reduceIte,jB],by simp -implicitDefEqProofs only[AA,↓reduceIte,jB],by simp -implicitDefEqProofs only[AA,↓reduceIte]; rfl,rfl,rfl⟩ ?_
 rintro n F H' ⟨k,hk,f2,f3,f5,rfl,hi⟩
 simp -implicitDefEqProofs only[vQ,BD,↓reduceIte,jB,enP,JV,JO,f3,f5,t.l1,jH]
 refine CU (fun hlt => ?_) (fun hlt => ?_)
 ·have hk':k < c.pts.length:=by simpa using hlt
  rw[AGZ _ _ _ hk'] at hi
  simp -implicitDefEqProofs only[vQ]
  refine ET (by kernel_rfl) ?_
  simp -implicitDefEqProofs only[vQ,CO,↓reduceIte,jB,jP,enP,JJ,JO,f2,f3,f5,t.l1,DL hk',C9 ag3 hk',encI0]
  refine AE5 (fun ha => ?_) (fun ha => ?_)
  ·simp -implicitDefEqProofs only[vQ,ZK,A09,CO,BD,EY,↓reduceIte,jB,jP,ha]
   have:decide (0≤c.pts[k])=false:=by simp at ha ⊢; omega
   exact⟨by rw[hi,this]; rfl,t.hx⟩
  have ha':decide (0≤c.pts[k])=true:=by simp at ha ⊢; omega
  simp -implicitDefEqProofs only[vQ,TS,CO,↓reduceIte,jB,jP,enP,PZ,H7,JJ,JO,ha,f2,f3,f5,t.lm,t.l1,DL hk',C9 ag3 hk',encI0,jH]
  refine AE5 (fun hb => ?_) (fun hb => ?_)
  ·simp -implicitDefEqProofs only[vQ,ZK,A09,CO,BD,EY,↓reduceIte,jB,jP,hb]
   have:decide (c.pts[k] < (m.pts.length:Int))=false:=by simp at hb ⊢; omega
   exact⟨by rw[hi,this,ha']; rfl,t.hx⟩
  have hb':decide (c.pts[k] < (m.pts.length:Int))=true:=by simp at hb ⊢; omega
  rw[ha',hb'] at hi
  simp only[qO] at hi
  cases k with
  | zero =>
    have hz:decide ((((0:Nat):Int)) > 0)=false:=by decide
    simp -implicitDefEqProofs only[vQ,TS,AE4,CO,BD,EY,↓reduceIte,jB,jP,enP,hb,hz,f5,wrap_succ (show 0 < 9223372036854775807 by omega)]
    exact⟨n - 1,by omega,1,by omega,f2,f3,rfl,trivial,by rw[hi]; rfl⟩
  | succ k =>
    have hz:decide ((((k+1:Nat):Int)) > 0)=true:=by simp
    have hw:IntKind.i64.wrap (((k+1:Nat):Int) - 1)=(k:Int):=by rw[wrap_i64 (by omega) (by omega)]; omega
    have hk2:k < c.pts.length:=by omega
    have hpv:prev c.pts (k+1)=some c.pts[k]:=by unfold prev; exact jO hk2
    rw[hpv] at hi
    simp -implicitDefEqProofs only[vQ,QA,TS,CO,↓reduceIte,jB,jP,enP,JJ,JO,hb,hz,f3,f5,t.l1,hw,DL hk',DL hk2,C9 ag3 hk',C9 ag3 hk2,encI0]
    refine CU (fun hd => ?_) (fun hd => ?_)
    ·simp -implicitDefEqProofs only[vQ,BD,↓reduceIte]
     have:decide (c.pts[k] < c.pts[k+1])=false:=by simp at hd ⊢; omega
     exact⟨by rw[hi]; simp only[this]; rfl,t.hx⟩
    ·simp -implicitDefEqProofs only[vQ,BD,↓reduceIte,jB,enP,f5,wrap_succ (show k+1 < 9223372036854775807 by omega)]
     have:decide (c.pts[k] < c.pts[k+1])=true:=by simp at hd ⊢; omega
     exact⟨n - 1,by omega,k+1+1,by omega,f2,f3,rfl,trivial,by rw[hi]; simp only[this]; rfl⟩
 ·have hk' : ¬ k < c.pts.length:=by simpa using hlt
  simp -implicitDefEqProofs only[vQ,BD,↓reduceIte]
  exact⟨by rw[hi,jZ (by omega)]; rfl,t.hx⟩
theorem ABU (G:Nat→AV)(m:Mo)(c:Cr)(x:Is)(h:Hp)(hh:Here m c.pts)(hl:c.pts.length≤1048576):PCall (En G) 97 [.agg (EE m),.agg (G5 c),.sl x.m 1 (x.l.map qencI)] h (.bool (JK (szs m c.pts) x.l)):=by
 refine ACalls.pure0 rfl ?_
 refine acN Tryz.func97 rfl ?_
 show awp _ _ _ _ _ (EJ _ [.tmp 6] _)
 have t:=Two.mk' h m c
 simp -implicitDefEqProofs only[vQ,BD,↓reduceIte,jB,enP,JV,JO,bxM,bxC]
 generalize h++[ABlk.live 2 [EE m]]++[ABlk.live 3 [G5 c]]=H at t ⊢
 generalize (h++[ABlk.live 2 [EE m]]).length=cb at t ⊢
 simp -implicitDefEqProofs only[vQ,BD,↓reduceIte,jB,enP,JV,t.l1,jH]
 refine CU (fun h2 => ?_) (fun h2 => ?_)
 ·simp -implicitDefEqProofs only[vQ,BD,↓reduceIte]
  have:JK (szs m c.pts) x.l=false:=by
   rw[← Bool.not_eq_true]; intro e
   have:=NK e
   rw[LY] at this
   simp at h2; omega
  exact⟨by rw[this],t.hx⟩
 have hlen:x.l.length=c.pts.length:=by simp at h2; omega
 simp -implicitDefEqProofs only[vQ,BD]
 refine DK (fun n F H' => ∃ k,n+k=x.l.length∧F 2 = .sl x.m 1 (x.l.map qencI)∧F 3 = .ptr h.length 0 0∧F 4 = .ptr cb 0 0∧F 7 = .int .i64 (k:Nat)∧H'=H∧JK (szs m c.pts) x.l=JK ((szs m c.pts).drop k) (x.l.drop k)) x.l.length ⟨0,by simp,by simp -implicitDefEqProofs only[vQ,↓reduceIte,jB],by simp -implicitDefEqProofs only[AA,↓reduceIte,jB],by simp -implicitDefEqProofs only[AA,↓reduceIte,jB],by simp -implicitDefEqProofs only[AA,↓reduceIte]; rfl,rfl,rfl⟩ ?_
 rintro n F H' ⟨k,hk,f2,f3,f4,f7,rfl,hi⟩
 simp -implicitDefEqProofs only[vQ,BD,↓reduceIte,jB,enP,JV,f2,f7,jH]
 refine CU (fun hlt => ?_) (fun hlt => ?_)
 ·have hk':k < x.l.length:=by simpa using hlt
  have hkc:k < c.pts.length:=by omega
  have hks:k < (szs m c.pts).length:=by rw[LY]; exact hkc
  have hgt:(szs m c.pts)[k]=(IU m c.pts[k]).length:=IE (ABX m c.pts k hkc)
  rw[zN hk',zN hks,hgt] at hi
  obtain⟨s,ls⟩:=hh.ld hkc H'
  simp -implicitDefEqProofs only[vQ]
  refine ET (by kernel_rfl) ?_
  simp -implicitDefEqProofs only[vQ,CO,↓reduceIte,jB,jP,enP,JJ,f2,f3,f4,f7,DL hk',C9 ag3 hk',encI0]
  refine AE5 (fun ha => ?_) (fun ha => ?_)
  ·simp -implicitDefEqProofs only[vQ,ZK,CO,BD,EY,↓reduceIte,jB,jP,ha]
   have:decide (0≤x.l[k])=false:=by simp at ha ⊢; omega
   exact⟨by rw[hi]; unfold JK; rw[this]; rfl,t.hx⟩
  have h0:decide (0≤x.l[k])=true:=by simp at ha ⊢; omega
  simp -implicitDefEqProofs only[vQ,TS,CO,↓reduceIte,jB,jP,enP,QG,H7,JJ,QD,I4,JO,ha,f2,f3,f4,f7,t.lm,t.l1,DL hk',C9 ag3 hk',DL hkc,C9 ag3 hkc,encI0,hh.ix hkc,ls,jH]
  refine CU (fun hd => ?_) (fun hd => ?_)
  ·simp -implicitDefEqProofs only[vQ,BD,↓reduceIte]
   have:decide (x.l[k] < ((IU m c.pts[k]).length:Int))=false:=by simp at hd ⊢; omega
   exact⟨by rw[hi]; unfold JK; rw[this,h0]; rfl,t.hx⟩
  ·simp -implicitDefEqProofs only[vQ,BD,↓reduceIte,jB,enP,f7,wrap_succ (show k < 9223372036854775807 by omega)]
   have h1:decide (x.l[k] < ((IU m c.pts[k]).length:Int))=true:=by simp at hd ⊢; omega
   refine⟨n - 1,by omega,k+1,by omega,f2,f3,f4,rfl,trivial,?_⟩
   rw[hi]
   conv=>lhs; unfold JK
   rw[h0,h1]; rfl
 ·have hk' : ¬ k < x.l.length:=by simpa using hlt
  simp -implicitDefEqProofs only[vQ,BD,↓reduceIte]
  exact⟨by rw[hi,jZ (show x.l.length≤k by omega),jZ (by rw[LY]; omega)]; rfl,t.hx⟩
theorem ATA (G:Nat→AV)(m:Mo)(c:Cr)(hc:CrOk c)(hf:Full m)(h:Hp):PCall (En G) 58 [.agg (EE m),.agg (G5 c)] h (.int .i64 (IJ m c)):=by
 refine ACalls.pure0 rfl ?_
 have hc2:=hc.pts
 have hc3:=hc.excl
 refine acN Tryz.func58 rfl ?_
 show awp _ _ _ _ _ (EJ _ [.tmp 4] _)
 have t:=Two.mk' h m c
 simp -implicitDefEqProofs only[vQ,BD,↓reduceIte,jB,enP,ADZ,bxM,bxC]
 generalize h++[ABlk.live 2 [EE m]]++[ABlk.live 3 [G5 c]]=H at t ⊢
 generalize (h++[ABlk.live 2 [EE m]]).length=cb at t ⊢
 simp -implicitDefEqProofs only[vQ,BD,↓reduceIte,t.l0]
 refine(PE G c.name _).use ?_
 simp -implicitDefEqProofs only[vQ,BD,↓reduceIte]
 cases h1:IA c.name
 ·simp -implicitDefEqProofs only[vQ,BD,↓reduceIte]
  exact⟨by unfold IJ; rw[if_pos h1],t.hx⟩
 have h1' : ¬ IA c.name=false:=by rw[h1]; decide
 simp -implicitDefEqProofs only[vQ,BD,↓reduceIte,jB,jV,enP,ldM t.gm,ldC t.gc]
 refine(AN1 G m c _ (by omega)).use ?_
 simp -implicitDefEqProofs only[vQ,BD,↓reduceIte]
 cases h2:placed m c
 ·simp -implicitDefEqProofs only[vQ,BD,↓reduceIte]
  refine⟨?_,t.hx⟩
  unfold IJ; rw[if_neg h1']
  unfold placed at h2
  split
  ·rfl
  ·rename_i h3
   have d2:decide (2≤c.pts.length)=true:=by simp; omega
   have d3:decide (c.pts.length≤4)=true:=by simp; omega
   rw[d2,d3] at h2
   rw[if_pos (by simpa using h2)]
 unfold placed at h2
 simp only[jX,decide_eq_true_eq] at h2
 obtain⟨⟨h3,h4⟩,h5⟩:=h2
 have h23 : ¬ (c.pts.length < 2∨4 < c.pts.length):=by omega
 have hi' : ¬ VS m.pts.length none c.pts=false:=by rw[h5]; decide
 have hh:=WC h5
 simp -implicitDefEqProofs only[vQ,BD,↓reduceIte,jB,jV,enP,ldM t.gm,ldC t.gc]
 refine(AS9 G m c _ hh hf (by omega)).use ?_
 simp -implicitDefEqProofs only[vQ,CO,BD,↓reduceIte,enP]
 refine IQ (fun ha => ?_) (fun ha => ?_)
 ·simp -implicitDefEqProofs only[vQ,CO,BD,EY,↓reduceIte,jB,ha]
  exact⟨by unfold IJ; rw[if_neg h1',if_neg h23,if_neg hi',if_pos (.inl (by simp at ha; omega))],t.hx⟩
 simp -implicitDefEqProofs only[vQ,CO,BD,↓reduceIte,jB,enP,AOA,SQ,ha,t.l2,jH]
 refine CU (fun hb => ?_) (fun hb => ?_)
 ·simp -implicitDefEqProofs only[vQ,BD,↓reduceIte]
  exact⟨by unfold IJ; rw[if_neg h1',if_neg h23,if_neg hi',if_pos (.inr (by simp at hb; omega))],t.hx⟩
 have hab : ¬ (256 < JB (szs m c.pts)∨256 < c.excl.length):=by simp at ha hb; omega
 have hce:IJ m c=if(c.excl.any fun x => !JK (szs m c.pts) x.l) then 1 else 0:=by
  unfold IJ; rw[if_neg h1',if_neg h23,if_neg hi',if_neg hab]
 simp -implicitDefEqProofs only[vQ,BD]
 refine DK (fun n F H' => ∃ k,n+k=c.excl.length∧F 2 = .ptr h.length 0 0∧F 3 = .ptr cb 0 0∧F 5 = .int .i64 (k:Nat)∧H'=H∧(c.excl.any fun x => !JK (szs m c.pts) x.l)=((c.excl.drop k).any fun x => !JK (szs m c.pts) x.l)) c.excl.length ⟨0,by simp,by simp -implicitDefEqProofs only[AA,↓reduceIte,jB],by simp -implicitDefEqProofs only[AA,↓reduceIte,jB],by simp -implicitDefEqProofs only[AA,↓reduceIte]; rfl,rfl,rfl⟩ ?_
 rintro n F H' ⟨k,hk,f2,f3,f5,rfl,hi⟩
 simp -implicitDefEqProofs only[vQ,BD,↓reduceIte,jB,enP,AOA,SQ,f3,f5,t.l2,jH]
 refine CU (fun hlt => ?_) (fun hlt => ?_)
 ·have hk':k < c.excl.length:=by simpa using hlt
  have hs:=LU (fun x:Is => !JK (szs m c.pts) x.l) c.excl k hk'
  simp -implicitDefEqProofs only[vQ]
  refine ET (by kernel_rfl) ?_
  simp -implicitDefEqProofs only[vQ,AJG,↓reduceIte,jB,jP,enP,ABQ,SQ,f2,f3,f5,ldM t.gm,ldC t.gc,t.l2,DL hk',C9 MG hk',AL2]
  refine⟨_,ABU G m c c.excl[k] _ hh (by omega),?_⟩
  try simp -implicitDefEqProofs only[vQ,↓reduceIte]
  cases hx:JK (szs m c.pts) c.excl[k].l
  ·simp -implicitDefEqProofs only[vQ,BD,↓reduceIte]
   exact⟨by rw[hce,hi,hs,hx]; rfl,t.hx⟩
  ·simp -implicitDefEqProofs only[vQ,BD,↓reduceIte,jB,jV,enP,f5,wrap_succ (show k < 9223372036854775807 by omega)]
   refine⟨n - 1,by omega,k+1,by omega,f2,f3,rfl,trivial,?_⟩
   rw[hi,hs,hx]; rfl
 ·have hk' : ¬ k < c.excl.length:=by simpa using hlt
  simp -implicitDefEqProofs only[vQ,BD,↓reduceIte]
  exact⟨by rw[hce,hi,jZ (by omega)]; rfl,t.hx⟩
structure MoOk (m:Mo):Prop where
 np:m.pts.length≤1048576
 nc:m.crs.length≤1048576
 pts : ∀ p∈m.pts,PtOk p
 crs : ∀ c∈m.crs,CrOk c
def G8 (m:Mo):Int :=
 if 16 < m.pts.length+m.crs.length then 2 else if KA GN m.pts≠0 then KA GN m.pts else if OZ (m.pts.map (·.name)) then 8 else
  if KA (IJ m) m.crs≠0 then KA (IJ m) m.crs else if OZ (m.crs.map (·.name)) then 8 else 0
theorem TL {α:Type}(f:α→Int) : ∀ {xs:List α},KA f xs=0→∀ x∈xs,f x=0
 | [],_,_,hx=>by cases hx
 | y :: ys,h,x,hx=>by
   simp only[KA] at h
   split at h
   ·rename_i h0
    cases qN.1 hx with
    | inl e=>subst e; exact h0
    | inr e=>exact TL f h x e
   ·rename_i h0; exact absurd h h0
theorem AA5 {p:Pt}(h:GN p=0):1≤p.bins.length∧p.bins.length≤64:=by
 unfold GN at h
 split at h
 ·cases h
 ·split at h
  ·rename_i h2; exact absurd h h2
  ·split at h
   ·cases h
   ·split at h
    ·cases h
    ·omega
theorem full_of {m:Mo}(h:KA GN m.pts=0):Full m:=fun p hp=>AA5 (TL _ h p hp)
theorem A02 (h:Hp):KG Tryz.prog h 51=some (.ptr h.length 0 0,h++[.live 6 [[.str ⟨#[]⟩,.int .i64 0,.int .i64 0,.str ⟨#[]⟩,.sl .nil 0 [],.sl .nil 0 []]]]):=J4 (row := [.str ⟨#[]⟩,.int .i64 0,.int .i64 0,.str ⟨#[]⟩,.sl .nil 0 [],.sl .nil 0 []]) (by kernel_rfl)
theorem AYC (h:Hp)(p:Pt)(row:List AV)(hr:row.length=6):FP Tryz.prog (h++[.live 6 [row]]) 51 (.ptr h.length 0 0) (.agg (GG p))=some (h++[.live 6 [GG p]]):=by
 rw[NZ (P5 (AAG p)) (by rw[IY]; exact XG) (by rw[IY,hr]; exact jL _)]
 have:splice row 0 (GG p)=GG p:=by unfold splice; simp [IY,hr]
 rw[this]
theorem ldP {h:Hp}{b:Nat}{p:Pt}(hb:h[b]? = some (.live 6 [GG p])):D5 Tryz.prog h 51 (.ptr b 0 0)=some (.agg (GG p)):=by
 rw[GV AAS XG hb rfl (by rw[IY]; exact jL 6),zK,jU (by rw[IY]; exact jL 6)]
theorem AXJ (h:Hp):KG Tryz.prog h 69=some (.ptr h.length 0 0,h++[.live 3 [[.str ⟨#[]⟩,.sl .nil 0 [],.sl .nil 0 []]]]):=J4 (row := [.str ⟨#[]⟩,.sl .nil 0 [],.sl .nil 0 []]) (by kernel_rfl)
theorem AUF (h:Hp)(c:Cr)(row:List AV)(hr:row.length=3):FP Tryz.prog (h++[.live 3 [row]]) 69 (.ptr h.length 0 0) (.agg (G5 c))=some (h++[.live 3 [G5 c]]):=by
 rw[NZ (P5 rfl) (by rw[LM]; exact ACI) (by rw[LM,hr]; exact jL _)]
 have:splice row 0 (G5 c)=G5 c:=by unfold splice; simp [LM,hr]
 rw[this]
theorem AC4 (G:Nat→AV)(hG:GOk G)(m:Mo)(hm:MoOk m)(h:Hp):PCall (En G) 27 [.agg (EE m)] h (.int .i64 (G8 m)):=by
 refine ACalls.pure0 rfl ?_
 have hm1:=hm.np
 have hm2:=hm.nc
 refine acN Tryz.func27 rfl ?_
 show awp _ _ _ _ _ (EJ _ [.tmp 2] _)
 have hw:IntKind.i64.wrap ((m.pts.length:Int)+(m.crs.length:Int))=(m.pts.length:Int)+(m.crs.length:Int):=wrap_i64 (by omega) (by omega)
 simp -implicitDefEqProofs only[vQ,BD,↓reduceIte,jB,enP,PZ,XW,H7,JS,bxM,DF ZI,DF AAT,RU,TP,jH,hw]
 refine CU (fun h1 => ?_) (fun h1 => ?_)
 ·simp -implicitDefEqProofs only[vQ,BD,↓reduceIte]
  exact⟨by unfold G8; rw[if_pos (by simp at h1; omega)],_,rfl⟩
 have h1' : ¬ 16 < m.pts.length+m.crs.length:=by simp at h1; omega
 have hme:G8 m=if KA GN m.pts≠0 then KA GN m.pts else if OZ (m.pts.map (·.name)) then 8 else if KA (IJ m) m.crs≠0 then KA (IJ m) m.crs else if OZ (m.crs.map (·.name)) then 8 else 0:=by
  unfold G8; rw[if_neg h1']
 have lm0 : ∀ H:Hp,H[h.length]? = some (.live 2 [EE m])→D5 Tryz.prog H 22 (.ptr h.length 0 0)=some (.sl m.pm 6 (m.pts.map GG)):=fun H hH=>by rw[DU ZI hH (row:=EE m) rfl,RU]
 have lm1 : ∀ H:Hp,H[h.length]? = some (.live 2 [EE m])→D5 Tryz.prog H 23 (.ptr h.length 0 1)=some (.sl m.cm 3 (m.crs.map G5)):=fun H hH=>by rw[DU AAT hH (row:=EE m) rfl,TP]
 simp -implicitDefEqProofs only[vQ,BD,↓reduceIte,jB,enP,PZ,H7,DF ZI,RU,jH]
 refine G6 0 (fun F H=>F 1 = .ptr h.length 0 0∧H[h.length]? = some (.live 2 [EE m])∧(∃ x,H=h++x)∧KA GN m.pts=0) (fun F H=>F 2 = .int .i64 (G8 m)∧∃ x,H=h++x) ?_ ?_ ?_
 ·refine DK (fun n F H => ∃ k,n+k=m.pts.length∧F 1 = .ptr h.length 0 0∧F 18 = .sl m.pm 6 (m.pts.map GG)∧F 19 = .int .i64 m.pts.length∧F 20 = .int .i64 (k:Nat)∧H[h.length]? = some (.live 2 [EE m])∧(∃ x,H=h++x)∧KA GN m.pts=KA GN (m.pts.drop k)) m.pts.length ⟨0,by simp,by simp -implicitDefEqProofs only[AA,↓reduceIte,jB],by simp -implicitDefEqProofs only[AA,↓reduceIte,jB],by simp -implicitDefEqProofs only[AA,↓reduceIte,jB],by simp -implicitDefEqProofs only[AA,↓reduceIte]; rfl,CZ _ _,⟨_,rfl⟩,rfl⟩ ?_
  rintro n F H ⟨k,hk,f1,f18,f19,f20,hb,⟨x,hx⟩,hf⟩
  simp -implicitDefEqProofs only[vQ,BD,↓reduceIte,enP,f19,f20]
  refine CU (fun hc => ?_) (fun hc => ?_)
  ·have hk':k < m.pts.length:=by simpa using hc
   have hs:=PG GN m.pts k hk'
   simp -implicitDefEqProofs only[vQ,BD,↓reduceIte,jB,enP,QG,jT,f18,f20,DL hk',FM AAS XG IY hk',A02,AYC _ _ [.str ⟨#[]⟩,.int .i64 0,.int .i64 0,.str ⟨#[]⟩,.sl .nil 0 [],.sl .nil 0 []] rfl,ldP (CZ H (.live 6 [GG m.pts[k]]))]
   refine(ACX G hG m.pts[k] (hm.pts _ (jS hk')) _).use ?_
   simp -implicitDefEqProofs only[vQ,BD,↓reduceIte,enP]
   refine CU (fun hv => ?_) (fun hv => ?_)
   ·simp -implicitDefEqProofs only[vQ,BD,↓reduceIte,jB]
    have hv':GN m.pts[k]≠0:=by simpa using hv
    have:KA GN m.pts=GN m.pts[k]:=by rw[hf,hs,if_neg hv']
    exact⟨by rw[hme,this,if_pos hv'],x++_,by rw[hx,zD]⟩
   ·have hv':GN m.pts[k]=0:=by simpa using hv
    simp -implicitDefEqProofs only[vQ,BD,↓reduceIte,jB,enP,f20,wrap_succ (show k < 9223372036854775807 by omega)]
    exact⟨n - 1,by omega,k+1,by omega,f1,f18,f19,rfl,CP hb,⟨x++_,by rw[hx,zD]⟩,by rw[hf,hs,if_pos hv']⟩
  ·have hk' : ¬ k < m.pts.length:=by simpa using hc
   simp -implicitDefEqProofs only[vQ,↓reduceIte,jB]
   exact⟨f1,hb,⟨x,hx⟩,by rw[hf,jZ (by omega)]; rfl⟩
 ·rintro F H ⟨f1,hb,hx0,hf⟩
  have hfull:=full_of hf
  rw[hf,if_neg (fun hh=>hh rfl)] at hme
  simp -implicitDefEqProofs only[vQ,BD,↓reduceIte,enP,H7,f1,lm0 _ hb]
  refine(ARX G m.pts m.pm H (by omega)).use ?_
  simp -implicitDefEqProofs only[vQ,↓reduceIte]
  cases hd:OZ (m.pts.map (·.name))
  case true =>
   simp -implicitDefEqProofs only[vQ,BD,↓reduceIte]
   exact⟨by rw[hme,hd]; rfl,hx0⟩
  rw[hd] at hme
  simp only[jW,if_false] at hme
  simp -implicitDefEqProofs only[vQ,BD,↓reduceIte,jB,enP,XW,JS,f1,lm1 _ hb,jH]
  refine G6 2 (fun F H=>F 1 = .ptr h.length 0 0∧H[h.length]? = some (.live 2 [EE m])∧(∃ x,H=h++x)∧KA (IJ m) m.crs=0) (fun F H=>F 2 = .int .i64 (G8 m)∧∃ x,H=h++x) ?_ ?_ ?_
  ·refine DK (fun n F H => ∃ k,n+k=m.crs.length∧F 1 = .ptr h.length 0 0∧F 34 = .sl m.cm 3 (m.crs.map G5)∧F 35 = .int .i64 m.crs.length∧F 36 = .int .i64 (k:Nat)∧H[h.length]? = some (.live 2 [EE m])∧(∃ x,H=h++x)∧KA (IJ m) m.crs=KA (IJ m) (m.crs.drop k)) m.crs.length ⟨0,by simp,by simp -implicitDefEqProofs only[AA,↓reduceIte,jB,f1],by simp -implicitDefEqProofs only[AA,↓reduceIte,jB],by simp -implicitDefEqProofs only[AA,↓reduceIte,jB],by simp -implicitDefEqProofs only[AA,↓reduceIte]; rfl,hb,hx0,rfl⟩ ?_
   clear f1 hb hx0
   rintro n F H ⟨k,hk,f1,f34,f35,f36,hb,⟨x,hx⟩,hf⟩
   simp -implicitDefEqProofs only[vQ,BD,↓reduceIte,enP,f35,f36]
   refine CU (fun hc => ?_) (fun hc => ?_)
   ·have hk':k < m.crs.length:=by simpa using hc
    have hs:=PG (IJ m) m.crs k hk'
    simp -implicitDefEqProofs only[vQ,BD,↓reduceIte,jB,enP,QU,jT,f1,f34,f36,DL hk',FM AI5 ACI LM hk',AXJ,AUF _ _ [.str ⟨#[]⟩,.sl .nil 0 [],.sl .nil 0 []] rfl,ldC (CZ H (.live 3 [G5 m.crs[k]])),ldM (CP (x := .live 3 [G5 m.crs[k]]) hb)]
    refine(AOV G hG m m.crs[k] (hm.crs _ (jS hk')) hfull _).use ?_
    simp -implicitDefEqProofs only[vQ,BD,↓reduceIte,enP]
    refine CU (fun hv => ?_) (fun hv => ?_)
    ·simp -implicitDefEqProofs only[vQ,BD,↓reduceIte,jB]
     have hv':IJ m m.crs[k]≠0:=by simpa using hv
     have:KA (IJ m) m.crs=IJ m m.crs[k]:=by rw[hf,hs,if_neg hv']
     exact⟨by rw[hme,this,if_pos hv'],x++_,by rw[hx,zD]⟩
    ·have hv':IJ m m.crs[k]=0:=by simpa using hv
     simp -implicitDefEqProofs only[vQ,BD,↓reduceIte,jB,enP,f36,wrap_succ (show k < 9223372036854775807 by omega)]
     exact⟨n - 1,by omega,k+1,by omega,f1,f34,f35,rfl,CP hb,⟨x++_,by rw[hx,zD]⟩,by rw[hf,hs,if_pos hv']⟩
   ·have hk' : ¬ k < m.crs.length:=by simpa using hc
    simp -implicitDefEqProofs only[vQ,↓reduceIte,jB]
    exact⟨f1,hb,⟨x,hx⟩,by rw[hf,jZ (by omega)]; rfl⟩
  ·rintro F H ⟨f1,hb,hx,hf⟩
   rw[hf,if_neg (fun hh=>hh rfl)] at hme
   simp -implicitDefEqProofs only[vQ,BD,↓reduceIte,enP,JS,f1,lm1 _ hb]
   refine(ARY G m.crs m.cm H (by omega)).use ?_
   simp -implicitDefEqProofs only[vQ,↓reduceIte]
   cases hd:OZ (m.crs.map (·.name))
   ·simp -implicitDefEqProofs only[vQ,BD,↓reduceIte]
    exact⟨by rw[hme,hd]; rfl,hx⟩
   ·simp -implicitDefEqProofs only[vQ,BD,↓reduceIte]
    exact⟨by rw[hme,hd]; rfl,hx⟩
  ·rintro F H ⟨f2,hx⟩
   simp -implicitDefEqProofs only[vQ,f2]
   exact⟨trivial,hx⟩
 ·rintro F H ⟨f2,hx⟩
  simp -implicitDefEqProofs only[vQ,f2]
  exact⟨trivial,hx⟩
theorem ASB (G:Nat→AV)(m:Mo)(hm:MoOk m)(h:Hp):PCall (En G) 29 [.agg (EE m)] h (.int .i64 (G8 m)):=by
 refine ACalls.pure0 rfl ?_
 have hm1:=hm.np
 have hm2:=hm.nc
 refine acN Tryz.func29 rfl ?_
 show awp _ _ _ _ _ (EJ _ [.tmp 2] _)
 have hw:IntKind.i64.wrap ((m.pts.length:Int)+(m.crs.length:Int))=(m.pts.length:Int)+(m.crs.length:Int):=wrap_i64 (by omega) (by omega)
 have gm:=CZ h (.live 2 [EE m])
 have hx : ∃ x,h++[ABlk.live 2 [EE m]]=h++x:=⟨_,rfl⟩
 simp -implicitDefEqProofs only[vQ,BD,↓reduceIte,jB,enP,H7,bxM]
 generalize h++[ABlk.live 2 [EE m]]=H at gm hx ⊢
 have lm0:D5 Tryz.prog H 22 (.ptr h.length 0 0)=some (.sl m.pm 6 (m.pts.map GG)):=by rw[DU ZI gm (row:=EE m) rfl,RU]
 have lm1:D5 Tryz.prog H 23 (.ptr h.length 0 1)=some (.sl m.cm 3 (m.crs.map G5)):=by rw[DU AAT gm (row:=EE m) rfl,TP]
 simp -implicitDefEqProofs only[vQ,BD,↓reduceIte,jB,enP,PZ,XW,JS,lm0,lm1,jH,hw]
 refine CU (fun h1 => ?_) (fun h1 => ?_)
 ·simp -implicitDefEqProofs only[vQ,BD,↓reduceIte]
  exact⟨by unfold G8; rw[if_pos (by simp at h1; omega)],hx⟩
 have h1' : ¬ 16 < m.pts.length+m.crs.length:=by simp at h1; omega
 have hme:G8 m=if KA GN m.pts≠0 then KA GN m.pts else if OZ (m.pts.map (·.name)) then 8 else if KA (IJ m) m.crs≠0 then KA (IJ m) m.crs else if OZ (m.crs.map (·.name)) then 8 else 0:=by
  unfold G8; rw[if_neg h1']
 simp -implicitDefEqProofs only[vQ,BD]
 refine G6 0 (fun F H'=>F 1 = .ptr h.length 0 0∧H'=H∧KA GN m.pts=0) (fun F H'=>F 2 = .int .i64 (G8 m)∧H'=H) ?_ ?_ ?_
 ·refine DK (fun n F H' => ∃ k,n+k=m.pts.length∧F 1 = .ptr h.length 0 0∧F 3 = .int .i64 (k:Nat)∧H'=H∧KA GN m.pts=KA GN (m.pts.drop k)) m.pts.length ⟨0,by simp,by simp -implicitDefEqProofs only[AA,↓reduceIte,jB],by simp -implicitDefEqProofs only[AA,↓reduceIte]; rfl,rfl,rfl⟩ ?_
  rintro n F H' ⟨k,hk,f1,f3,rfl,hf⟩
  simp -implicitDefEqProofs only[vQ,BD,↓reduceIte,jB,enP,PZ,H7,f1,f3,lm0,jH]
  refine CU (fun hc => ?_) (fun hc => ?_)
  ·have hk':k < m.pts.length:=by simpa using hc
   have hs:=PG GN m.pts k hk'
   simp -implicitDefEqProofs only[vQ,BD,↓reduceIte,jB,enP,QG,H7,f1,f3,lm0,DL hk',FM AAS XG IY hk']
   refine(AR2 G m.pts[k] (hm.pts _ (jS hk')) _).use ?_
   simp -implicitDefEqProofs only[vQ,BD,↓reduceIte,enP]
   refine CU (fun hv => ?_) (fun hv => ?_)
   ·simp -implicitDefEqProofs only[vQ,BD,↓reduceIte,jB]
    have hv':GN m.pts[k]≠0:=by simpa using hv
    have:KA GN m.pts=GN m.pts[k]:=by rw[hf,hs,if_neg hv']
    exact⟨by rw[hme,this,if_pos hv'],trivial⟩
   ·have hv':GN m.pts[k]=0:=by simpa using hv
    simp -implicitDefEqProofs only[vQ,BD,↓reduceIte,jB,enP,f3,wrap_succ (show k < 9223372036854775807 by omega)]
    exact⟨n - 1,by omega,k+1,by omega,f1,rfl,trivial,by rw[hf,hs,if_pos hv']⟩
  ·have hk' : ¬ k < m.pts.length:=by simpa using hc
   simp -implicitDefEqProofs only[vQ,↓reduceIte,jB]
   exact⟨f1,trivial,by rw[hf,jZ (by omega)]; rfl⟩
 ·rintro F H' ⟨f1,rfl,hf⟩
  have hfull:=full_of hf
  rw[hf,if_neg (fun hh=>hh rfl)] at hme
  simp -implicitDefEqProofs only[vQ,BD,↓reduceIte,f1]
  refine G6 2 (fun F H=>F 1 = .ptr h.length 0 0∧H=H'∧OZ (m.pts.map (·.name))=false) (fun F H=>F 2 = .int .i64 (G8 m)∧H=H') ?_ ?_ ?_
  ·generalize hN:m.pts.map (·.name)=N at hme ⊢
   have hNl:N.length=m.pts.length:=by rw[← hN]; simp
   have hNi : ∀ i (hi:i < m.pts.length),N[i]? = some m.pts[i].name:=fun i hi=>by rw[← hN,jY,jO hi]; rfl
   refine DK (fun n F H => ∃ i,n+i=m.pts.length∧F 1 = .ptr h.length 0 0∧F 5 = .int .i64 (i:Nat)∧H=H'∧OZ N=AFR (N.take i) (N.drop i)) m.pts.length ⟨0,by simp,by simp -implicitDefEqProofs only[AA,↓reduceIte,jB,f1],by simp -implicitDefEqProofs only[AA,↓reduceIte]; rfl,rfl,rfl⟩ ?_
   clear f1
   rintro n F H' ⟨i,hi,f1,f5,rfl,hd⟩
   simp -implicitDefEqProofs only[vQ,BD,↓reduceIte,jB,enP,PZ,H7,f1,f5,lm0,jH]
   refine CU (fun hc => ?_) (fun hc => ?_)
   ·have hi':i < m.pts.length:=by simpa using hc
    have hdrop:=QQ N i (by omega)
    rw[IE (hNi i hi')] at hdrop
    simp -implicitDefEqProofs only[vQ,BD,f5]
    refine G6 4 (fun F' H=>F' 1 = .ptr h.length 0 0∧F' 5 = .int .i64 (i:Nat)∧H=H'∧IZ (N.take i) m.pts[i].name=false) (fun F' H=>F' 2 = .int .i64 8∧H=H'∧OZ N=true) ?_ ?_ ?_
    ·refine DK (fun n F' H => ∃ k,n+k=i∧F' 1 = .ptr h.length 0 0∧F' 5 = .int .i64 (i:Nat)∧F' 6 = .int .i64 (k:Nat)∧H=H'∧IZ (N.take i) m.pts[i].name=IZ ((N.take i).drop k) m.pts[i].name) i ⟨0,by simp,by simp -implicitDefEqProofs only[AA,↓reduceIte,jB,f1],by simp -implicitDefEqProofs only[AA,↓reduceIte,jB,f5],by simp -implicitDefEqProofs only[AA,↓reduceIte]; rfl,rfl,rfl⟩ ?_
     clear f1 f5
     rintro n' F H' ⟨k,hk,f1,f5,f6,rfl,hin⟩
     simp -implicitDefEqProofs only[vQ,BD,↓reduceIte,jB,enP,f5,f6]
     refine CU (fun hc => ?_) (fun hc => ?_)
     ·have hk':k < i:=by simpa using hc
      have hk2:k < m.pts.length:=by omega
      have hs:=LU (fun u=>m.pts[i].name.toList == u.toList) (N.take i) k (by rw[zF]; omega)
      have hx:(N.take i)[k]'(by rw[zF]; omega)=m.pts[k].name:=by
       rw[List.getElem_take]; exact IE (hNi k hk2)
      rw[hx] at hs
      simp -implicitDefEqProofs only[vQ]
      refine ET (by kernel_rfl) ?_
      simp -implicitDefEqProofs only[vQ,LQ,↓reduceIte,jB,jP,enP,QG,H7,AD1,f1,f5,f6,lm0,DL hi',DL hk2,C9 ag9 hi',C9 ag9 hk2,AL1]
      refine CU (fun hb => ?_) (fun hb => ?_)
      ·simp -implicitDefEqProofs only[vQ,BD,↓reduceIte]
       have:IZ (N.take i) m.pts[i].name=true:=by
        rw[hin]; unfold IZ; rw[hs,BEq.comm,hb]; rfl
       exact⟨trivial,trivial,by rw[hd,hdrop,this]; rfl⟩
      ·simp -implicitDefEqProofs only[vQ,BD,↓reduceIte,jB,enP,f6,wrap_succ (show k < 9223372036854775807 by omega)]
       refine⟨n' - 1,by omega,k+1,by omega,f1,f5,rfl,trivial,?_⟩
       rw[hin]; unfold IZ; rw[hs,BEq.comm,hb]; rfl
     ·have hk' : ¬ k < i:=by simpa using hc
      simp -implicitDefEqProofs only[vQ,↓reduceIte,jB]
      refine⟨f1,f5,trivial,?_⟩
      rw[hin,jZ (by rw[zF]; omega)]; rfl
    ·rintro F' H' ⟨g1,g5,rfl,hn⟩
     simp -implicitDefEqProofs only[vQ,BD,↓reduceIte,jB,enP,g5,wrap_succ (show i < 9223372036854775807 by omega)]
     refine⟨n - 1,by omega,i+1,by omega,g1,rfl,trivial,?_⟩
     rw[hd,hdrop,hn]; rfl
    ·rintro F' H' ⟨g2,rfl,hdd⟩
     simp -implicitDefEqProofs only[vQ,g2]
     exact⟨by rw[hme,hdd]; rfl,trivial⟩
   ·have hi' : ¬ i < m.pts.length:=by simpa using hc
    simp -implicitDefEqProofs only[vQ,↓reduceIte,jB]
    exact⟨f1,trivial,by rw[hd,jZ (by omega)]; rfl⟩
  ·clear f1
   rintro F H ⟨f1,rfl,hd⟩
   rw[hd] at hme
   simp only[jW,if_false] at hme
   simp -implicitDefEqProofs only[vQ,BD,↓reduceIte]
   refine G6 6 (fun F H'=>F 1 = .ptr h.length 0 0∧H'=H∧KA (IJ m) m.crs=0) (fun F H'=>F 2 = .int .i64 (G8 m)∧H'=H) ?_ ?_ ?_
   ·refine DK (fun n F H' => ∃ k,n+k=m.crs.length∧F 1 = .ptr h.length 0 0∧F 7 = .int .i64 (k:Nat)∧H'=H∧KA (IJ m) m.crs=KA (IJ m) (m.crs.drop k)) m.crs.length ⟨0,by simp,by simp -implicitDefEqProofs only[AA,↓reduceIte,jB,f1],by simp -implicitDefEqProofs only[AA,↓reduceIte]; rfl,rfl,rfl⟩ ?_
    clear f1
    rintro n F H' ⟨k,hk,f1,f7,rfl,hf⟩
    simp -implicitDefEqProofs only[vQ,BD,↓reduceIte,jB,enP,XW,JS,f1,f7,lm1,jH]
    refine CU (fun hc => ?_) (fun hc => ?_)
    ·have hk':k < m.crs.length:=by simpa using hc
     have hs:=PG (IJ m) m.crs k hk'
     simp -implicitDefEqProofs only[vQ]
     refine ET (by kernel_rfl) ?_
     simp -implicitDefEqProofs only[vQ,BD,↓reduceIte,jB,jP,enP,QU,JS,f1,f7,lm1,ldM gm,DL hk',FM AI5 ACI LM hk']
     refine⟨_,ATA G m m.crs[k] (hm.crs _ (jS hk')) hfull _,?_⟩
     try simp -implicitDefEqProofs only[vQ,↓reduceIte]
     refine CU (fun hv => ?_) (fun hv => ?_)
     ·simp -implicitDefEqProofs only[vQ,BD,↓reduceIte,jB]
      have hv':IJ m m.crs[k]≠0:=by simpa using hv
      have:KA (IJ m) m.crs=IJ m m.crs[k]:=by rw[hf,hs,if_neg hv']
      exact⟨by rw[hme,this,if_pos hv'],trivial⟩
     ·have hv':IJ m m.crs[k]=0:=by simpa using hv
      simp -implicitDefEqProofs only[vQ,BD,↓reduceIte,jB,enP,f7,wrap_succ (show k < 9223372036854775807 by omega)]
      exact⟨n - 1,by omega,k+1,by omega,f1,rfl,trivial,by rw[hf,hs,if_pos hv']⟩
    ·have hk' : ¬ k < m.crs.length:=by simpa using hc
     simp -implicitDefEqProofs only[vQ,↓reduceIte,jB]
     exact⟨f1,trivial,by rw[hf,jZ (by omega)]; rfl⟩
   ·rintro F H' ⟨f1,rfl,hf⟩
    rw[hf,if_neg (fun hh=>hh rfl)] at hme
    simp -implicitDefEqProofs only[vQ,BD,↓reduceIte]
    generalize hN:m.crs.map (·.name)=N at hme
    have hNl:N.length=m.crs.length:=by rw[← hN]; simp
    have hNi : ∀ i (hi:i < m.crs.length),N[i]? = some m.crs[i].name:=fun i hi=>by rw[← hN,jY,jO hi]; rfl
    refine DK (fun n F H => ∃ i,n+i=m.crs.length∧F 1 = .ptr h.length 0 0∧F 9 = .int .i64 (i:Nat)∧H=H'∧OZ N=AFR (N.take i) (N.drop i)) m.crs.length ⟨0,by simp,by simp -implicitDefEqProofs only[AA,↓reduceIte,jB,f1],by simp -implicitDefEqProofs only[AA,↓reduceIte]; rfl,rfl,rfl⟩ ?_
    clear f1
    rintro n F H' ⟨i,hi,f1,f9,rfl,hd⟩
    simp -implicitDefEqProofs only[vQ,BD,↓reduceIte,jB,enP,XW,JS,f1,f9,lm1,jH]
    refine CU (fun hc => ?_) (fun hc => ?_)
    ·have hi':i < m.crs.length:=by simpa using hc
     have hdrop:=QQ N i (by omega)
     rw[IE (hNi i hi')] at hdrop
     simp -implicitDefEqProofs only[vQ,BD,f9]
     refine G6 10 (fun F' H=>F' 1 = .ptr h.length 0 0∧F' 9 = .int .i64 (i:Nat)∧H=H'∧IZ (N.take i) m.crs[i].name=false) (fun F' H=>F' 2 = .int .i64 8∧H=H'∧OZ N=true) ?_ ?_ ?_
     ·refine DK (fun n F' H => ∃ k,n+k=i∧F' 1 = .ptr h.length 0 0∧F' 9 = .int .i64 (i:Nat)∧F' 10 = .int .i64 (k:Nat)∧H=H'∧IZ (N.take i) m.crs[i].name=IZ ((N.take i).drop k) m.crs[i].name) i ⟨0,by simp,by simp -implicitDefEqProofs only[AA,↓reduceIte,jB,f1],by simp -implicitDefEqProofs only[AA,↓reduceIte,jB,f9],by simp -implicitDefEqProofs only[AA,↓reduceIte]; rfl,rfl,rfl⟩ ?_
      clear f1 f9
      rintro n' F H' ⟨k,hk,f1,f9,f10,rfl,hin⟩
      simp -implicitDefEqProofs only[vQ,BD,↓reduceIte,jB,enP,f9,f10]
      refine CU (fun hc => ?_) (fun hc => ?_)
      ·have hk':k < i:=by simpa using hc
       have hk2:k < m.crs.length:=by omega
       have hs:=LU (fun u=>m.crs[i].name.toList == u.toList) (N.take i) k (by rw[zF]; omega)
       have hx:(N.take i)[k]'(by rw[zF]; omega)=m.crs[k].name:=by
        rw[List.getElem_take]; exact IE (hNi k hk2)
       rw[hx] at hs
       simp -implicitDefEqProofs only[vQ]
       refine ET (by kernel_rfl) ?_
       simp -implicitDefEqProofs only[vQ,LQ,↓reduceIte,jB,jP,enP,QU,JS,ADZ,f1,f9,f10,lm1,DL hi',DL hk2,C9 ag9 hi',C9 ag9 hk2,AL4]
       refine CU (fun hb => ?_) (fun hb => ?_)
       ·simp -implicitDefEqProofs only[vQ,BD,↓reduceIte]
        have:IZ (N.take i) m.crs[i].name=true:=by
         rw[hin]; unfold IZ; rw[hs,BEq.comm,hb]; rfl
        exact⟨trivial,trivial,by rw[hd,hdrop,this]; rfl⟩
       ·simp -implicitDefEqProofs only[vQ,BD,↓reduceIte,jB,enP,f10,wrap_succ (show k < 9223372036854775807 by omega)]
        refine⟨n' - 1,by omega,k+1,by omega,f1,f9,rfl,trivial,?_⟩
        rw[hin]; unfold IZ; rw[hs,BEq.comm,hb]; rfl
      ·have hk' : ¬ k < i:=by simpa using hc
       simp -implicitDefEqProofs only[vQ,↓reduceIte,jB]
       refine⟨f1,f9,trivial,?_⟩
       rw[hin,jZ (by rw[zF]; omega)]; rfl
     ·rintro F' H' ⟨g1,g9,rfl,hn⟩
      simp -implicitDefEqProofs only[vQ,BD,↓reduceIte,jB,enP,g9,wrap_succ (show i < 9223372036854775807 by omega)]
      refine⟨n - 1,by omega,i+1,by omega,g1,rfl,trivial,?_⟩
      rw[hd,hdrop,hn]; rfl
     ·rintro F' H' ⟨g2,rfl,hdd⟩
      simp -implicitDefEqProofs only[vQ,g2]
      exact⟨by rw[hme,hdd]; rfl,hx⟩
    ·have hi' : ¬ i < m.crs.length:=by simpa using hc
     simp -implicitDefEqProofs only[vQ,BD,↓reduceIte]
     exact⟨by rw[hme,hd,jZ (by omega)]; rfl,hx⟩
   ·rintro F H' ⟨f2,rfl⟩
    simp -implicitDefEqProofs only[vQ,f2]
    exact⟨trivial,hx⟩
  ·rintro F H ⟨f2,rfl⟩
   simp -implicitDefEqProofs only[vQ,f2]
   exact⟨trivial,hx⟩
 ·rintro F H' ⟨f2,rfl⟩
  simp -implicitDefEqProofs only[vQ,f2]
  exact⟨trivial,hx⟩
def eqL (a b:List Int):Bool:=decide (a=b)
theorem ALY {a b:List Int}{k:Nat}(ha:k < a.length)(hb:k < b.length):eqL (a.drop k) (b.drop k)=(decide (a[k]=b[k]) && eqL (a.drop (k+1)) (b.drop (k+1))):=by
 rw[zN ha,zN hb]
 unfold eqL
 rw[decide_eq_decide.2 (Iff.of_eq (List.cons.injEq _ _ _ _)),Bool.decide_and]
theorem AD3 (G:Nat→AV)(a b:List Int)(s t:SM)(h:Hp)(hl:b.length≤1099511627776):PCall (En G) 92 [.sl s 1 (a.map qencI),.sl t 1 (b.map qencI)] h (.bool (eqL a b)):=by
 refine acN Tryz.func92 rfl ?_
 show awp _ _ _ _ _ (EJ _ [.tmp 4] _)
 simp -implicitDefEqProofs only[vQ,BD,↓reduceIte,jB,enP,JV,jH]
 refine CU (fun h1 => ?_) (fun h1 => ?_)
 ·simp -implicitDefEqProofs only[vQ,BD,↓reduceIte]
  have:eqL a b=false:=by
   unfold eqL; rw[decide_eq_false_iff_not]; intro e; subst e; simp at h1
  exact⟨by rw[this],trivial⟩
 have hab:a.length=b.length:=by simp at h1; omega
 simp -implicitDefEqProofs only[vQ,BD,↓reduceIte,jB,enP,JV,jH]
 refine DK (fun n F H => ∃ k,n+k=a.length∧F 0 = .sl s 1 (a.map qencI)∧F 1 = .sl t 1 (b.map qencI)∧F 12 = .int .i64 a.length∧F 13 = .int .i64 (k:Nat)∧H=h∧eqL a b=eqL (a.drop k) (b.drop k)) a.length ⟨0,by simp,by simp -implicitDefEqProofs only[vQ,↓reduceIte,jB],by simp -implicitDefEqProofs only[vQ,↓reduceIte,jB],by simp -implicitDefEqProofs only[AA,↓reduceIte,jB],by simp -implicitDefEqProofs only[AA,↓reduceIte]; rfl,rfl,rfl⟩ ?_
 rintro n F H ⟨k,hk,f0,f1,f12,f13,rfl,hi⟩
 simp -implicitDefEqProofs only[vQ,BD,↓reduceIte,enP,f12,f13]
 refine CU (fun hc => ?_) (fun hc => ?_)
 ·have hk':k < a.length:=by simpa using hc
  have hkb:k < b.length:=by omega
  rw[ALY hk' hkb] at hi
  simp -implicitDefEqProofs only[vQ,BD,↓reduceIte,jB,f13]
  refine ET (by kernel_rfl) ?_
  simp -implicitDefEqProofs only[vQ,↓reduceIte,jB,jP,enP,JJ,f0,f1,f13,DL hk',DL hkb,C9 ag3 hk',C9 ag3 hkb,encI0]
  refine CU (fun hd => ?_) (fun hd => ?_)
  ·simp -implicitDefEqProofs only[vQ,BD,↓reduceIte]
   have:decide (a[k]=b[k])=false:=by simpa using hd
   exact⟨by rw[hi,this]; rfl,trivial⟩
  ·simp -implicitDefEqProofs only[vQ,BD,↓reduceIte,jB,enP,f13,wrap_succ (show k < 9223372036854775807 by omega)]
   have:decide (a[k]=b[k])=true:=by simpa using hd
   exact⟨n - 1,by omega,k+1,by omega,f0,f1,f12,rfl,trivial,by rw[hi,this]; rfl⟩
 ·have hk' : ¬ k < a.length:=by simpa using hc
  simp -implicitDefEqProofs only[vQ,BD,↓reduceIte]
  exact⟨by rw[hi,jZ (by omega),jZ (by omega)]; rfl,trivial⟩
theorem ANP (G:Nat→AV)(a b:List Int)(s t:SM)(h:Hp)(hl:b.length≤1099511627776):PCall (En G) 61 [.sl s 1 (a.map qencI),.sl t 1 (b.map qencI)] h (.bool (eqL a b)):=by
 refine acN Tryz.func61 rfl ?_
 show awp _ _ _ _ _ (EJ _ [.tmp 4] _)
 simp -implicitDefEqProofs only[vQ,BD,↓reduceIte,jB,enP,JV,jH]
 refine CU (fun h1 => ?_) (fun h1 => ?_)
 ·simp -implicitDefEqProofs only[vQ,BD,↓reduceIte]
  have:eqL a b=false:=by
   unfold eqL; rw[decide_eq_false_iff_not]; intro e; subst e; simp at h1
  exact⟨by rw[this],trivial⟩
 have hab:a.length=b.length:=by simp at h1; omega
 simp -implicitDefEqProofs only[vQ,BD]
 refine DK (fun n F H => ∃ k,n+k=a.length∧F 0 = .sl s 1 (a.map qencI)∧F 1 = .sl t 1 (b.map qencI)∧F 5 = .int .i64 (k:Nat)∧H=h∧eqL a b=eqL (a.drop k) (b.drop k)) a.length ⟨0,by simp,by simp -implicitDefEqProofs only[vQ,↓reduceIte,jB],by simp -implicitDefEqProofs only[vQ,↓reduceIte,jB],by simp -implicitDefEqProofs only[AA,↓reduceIte]; rfl,rfl,rfl⟩ ?_
 rintro n F H ⟨k,hk,f0,f1,f5,rfl,hi⟩
 simp -implicitDefEqProofs only[vQ,BD,↓reduceIte,jB,enP,JV,f0,f5,jH]
 refine CU (fun hc => ?_) (fun hc => ?_)
 ·have hk':k < a.length:=by simpa using hc
  have hkb:k < b.length:=by omega
  rw[ALY hk' hkb] at hi
  simp -implicitDefEqProofs only[vQ]
  refine ET (by kernel_rfl) ?_
  simp -implicitDefEqProofs only[vQ,↓reduceIte,jB,jP,enP,JJ,f0,f1,f5,DL hk',DL hkb,C9 ag3 hk',C9 ag3 hkb,encI0]
  refine CU (fun hd => ?_) (fun hd => ?_)
  ·simp -implicitDefEqProofs only[vQ,BD,↓reduceIte]
   have:decide (a[k]=b[k])=false:=by simpa using hd
   exact⟨by rw[hi,this]; rfl,trivial⟩
  ·simp -implicitDefEqProofs only[vQ,BD,↓reduceIte,jB,enP,f5,wrap_succ (show k < 9223372036854775807 by omega)]
   have:decide (a[k]=b[k])=true:=by simpa using hd
   exact⟨n - 1,by omega,k+1,by omega,f0,f1,rfl,trivial,by rw[hi,this]; rfl⟩
 ·have hk' : ¬ k < a.length:=by simpa using hc
  simp -implicitDefEqProofs only[vQ,BD,↓reduceIte]
  exact⟨by rw[hi,jZ (by omega),jZ (by omega)]; rfl,trivial⟩
def LX (n:Int):Bool:=decide (0≤n) && decide (n≤1099511627776)
def countB (n:Int)(may:Bool):Bool:=LX n && (may || n == 0)
theorem AMG (G:Nat→AV)(b:Bin)(h:Hp):PCall (En G) 160 [.agg (GR b)] h (.bool (b.kind == 0)):=by
 refine ACalls.pure0 rfl ?_
 refine acN Tryz.func160 rfl ?_
 show awp _ _ _ _ _ (EJ _ [.tmp 2] _)
 simp -implicitDefEqProofs only[vQ,BD,↓reduceIte,jB,enP,NV,bxB,DF ag3,QZ]
 exact⟨trivial,_,rfl⟩
def XY (m:Mo)(p b:Int):Int:=match (IU m p)[b.toNat]? with
 | some x=>x.kind
 | none=>0
def MZ (m:Mo):List Int→List Int→Bool
 | p :: ps,b :: bs=>(XY m p b == 0) && MZ m ps bs
 | _,_=>true
def TI (m:Mo)(c:Cr)(l:List Int):Bool:=MZ m c.pts l && !(c.excl.any fun x=>eqL x.l l)
theorem WB {m:Mo} : ∀ {ps l:List Int},JK (szs m ps) l=true→∀ (k:Nat) (hk:k < l.length) (hp:k < ps.length),0≤l[k]∧l[k] < ((IU m ps[k]).length:Int)
 | p :: ps,b :: bs,h,k,hk,hp=>by
   simp only[szs,jD,JK,jX,decide_eq_true_eq] at h
   cases k with
   | zero=>exact h.1
   | succ k=>exact WB (m:=m) (ps:=ps) h.2 k (by simpa using hk) (by simpa using hp)
 | [],b :: bs,h,k,hk,hp=>by simp at hp
 | _,[],h,k,hk,hp=>by simp at hk
theorem VN (m:Mo)(ps l:List Int)(k:Nat)(hp:k < ps.length)(hk:k < l.length):MZ m (ps.drop k) (l.drop k)=((XY m ps[k] l[k] == 0) && MZ m (ps.drop (k+1)) (l.drop (k+1))):=by
 rw[zN hp,zN hk]; rfl
theorem XX (m:Mo)(ps:List Int):MZ m ps []=true:=by cases ps <;> rfl
theorem AO8 {m:Mo}{p b:Int}(h0:0≤b)(h1:b < ((IU m p).length:Int))(h:Hp)(s:SM):JZ 4 h (.sl s 4 ((IU m p).map GR)) (.int .i64 b)=some (.fptr 4 ((IU m p).map GR) b.toNat 0) :=
 A1K h0 (by rw[jH]; exact h1)
theorem AEN {m:Mo}{p b:Int}(h0:0≤b)(h1:b < ((IU m p).length:Int)):((IU m p)[b.toNat]'(by omega)).kind=XY m p b:=by
 unfold XY; rw[jO (by omega)]
theorem AZX (G:Nat→AV)(l:List Int)(s:SM)(b:Nat)(r:Is)(h:Hp)(hb:h[b]? = some (.live 1 [[.sl s 1 (l.map qencI)]]))(hl:l.length≤1099511627776) :
  PCall (En G) 161 [.sl r.m 1 (r.l.map qencI),.ptr b 0 0] h (.bool (eqL r.l l)):=by
 refine acN Tryz.func161 rfl ?_
 show awp _ _ _ _ _ (EJ _ [.tmp 3] _)
 simp -implicitDefEqProofs only[vQ,BD,↓reduceIte,jB,enP,JW MG hb]
 refine(AD3 G r.l l r.m s h hl).use ?_
 simp -implicitDefEqProofs only[vQ,BD,↓reduceIte]
 exact⟨trivial,trivial⟩
theorem Two.app {h H:Hp}{m:Mo}{c:Cr}{cb:Nat}(t:Two h H m c cb)(x:Hp):Two h (H++x) m c cb:=by
 obtain⟨y,hy⟩:=t.hx
 exact⟨F8 t.gm,F8 t.gc,⟨y++x,by rw[hy,zD]⟩⟩
theorem AFL (G:Nat→AV)(m:Mo)(c:Cr)(l:List Int)(s:SM)(h:Hp)(hh:Here m c.pts)(hi:JK (szs m c.pts) l=true)(hl:c.pts.length≤1048576)(hx:c.excl.length≤1048576):PCall (En G) 115 [.agg (EE m),.agg (G5 c),.sl s 1 (l.map qencI)] h (.bool (TI m c l)):=by
 refine ACalls.pure0 rfl ?_
 have hlen:l.length=c.pts.length:=by have:=NK hi; rw[LY] at this; omega
 refine acN Tryz.func115 rfl ?_
 show awp _ _ _ _ _ (EJ _ [.tmp 6] _)
 have t:=(Two.mk' h m c).app [.live 1 [[.sl s 1 (l.map qencI)]]]
 have gl:=CZ (h++[ABlk.live 2 [EE m]]++[ABlk.live 3 [G5 c]]) (.live 1 [[.sl s 1 (l.map qencI)]])
 simp -implicitDefEqProofs only[vQ,AO7,BD,↓reduceIte,jB,enP,bxM,bxC]
 generalize h++[ABlk.live 2 [EE m]]++[ABlk.live 3 [G5 c]]++[ABlk.live 1 [[.sl s 1 (l.map qencI)]]]=H at t gl ⊢
 generalize (h++[ABlk.live 2 [EE m]]++[ABlk.live 3 [G5 c]]).length=lb at gl ⊢
 generalize (h++[ABlk.live 2 [EE m]]).length=cb at t ⊢
 simp -implicitDefEqProofs only[vQ,BD,↓reduceIte,enP,JV,JW MG gl,jH]
 have hkb:=VN m c.pts l
 refine G6 0 (fun F H'=>F 4 = .ptr cb 0 0∧F 5 = .ptr lb 0 0∧H'=H∧MZ m c.pts l=true) (fun F H'=>F 6 = .bool false∧H'=H∧MZ m c.pts l=false) ?_ ?_ ?_
 ·refine DK (fun n F H' => ∃ k,n+k=l.length∧F 3 = .ptr h.length 0 0∧F 4 = .ptr cb 0 0∧F 5 = .ptr lb 0 0∧F 9 = .sl s 1 (l.map qencI)∧F 10 = .int .i64 l.length∧F 11 = .int .i64 (k:Nat)∧H'=H∧MZ m c.pts l=MZ m (c.pts.drop k) (l.drop k)) l.length ⟨0,by simp,by simp -implicitDefEqProofs only[AA,↓reduceIte,jB],by simp -implicitDefEqProofs only[AA,↓reduceIte,jB],by simp -implicitDefEqProofs only[AA,↓reduceIte,jB],by simp -implicitDefEqProofs only[AA,↓reduceIte,jB],by simp -implicitDefEqProofs only[AA,↓reduceIte,jB],by simp -implicitDefEqProofs only[AA,↓reduceIte]; rfl,rfl,rfl⟩ ?_
  rintro n F H' ⟨k,hk,f3,f4,f5,f9,f10,f11,rfl,hk0⟩
  simp -implicitDefEqProofs only[vQ,BD,↓reduceIte,enP,f10,f11]
  refine CU (fun hc => ?_) (fun hc => ?_)
  ·have hk':k < l.length:=by simpa using hc
   have hkc:k < c.pts.length:=by omega
   rw[hkb k hkc hk'] at hk0
   obtain⟨h0,h1⟩:=WB hi k hk' hkc
   obtain⟨s2,ls⟩:=hh.ld hkc H'
   simp -implicitDefEqProofs only[vQ,BD,↓reduceIte,jB,enP,JJ,f9,f11,DL hk',C9 ag3 hk',encI0]
   refine ET (by kernel_rfl) ?_
   simp -implicitDefEqProofs only[vQ,AJG,↓reduceIte,jB,jP,enP,QG,H7,JJ,TG,I4,JO,f3,f4,f11,t.lm,t.l1,DL hkc,C9 ag3 hkc,encI0,hh.ix hkc,ls,AO8 h0 h1,FM ABV XF LP (show l[k].toNat < (IU m c.pts[k]).length by omega)]
   refine⟨_,AMG G _ _,?_⟩
   try simp -implicitDefEqProofs only[vQ,↓reduceIte]
   rw[AEN h0 h1]
   cases hkd:(XY m c.pts[k] l[k] == 0)
   ·simp -implicitDefEqProofs only[vQ,BD,↓reduceIte]
    exact⟨trivial,trivial,by rw[hk0,hkd]; rfl⟩
   ·simp -implicitDefEqProofs only[vQ,BD,↓reduceIte,jB,jV,enP,f11,wrap_succ (show k < 9223372036854775807 by omega)]
    exact⟨n - 1,by omega,k+1,by omega,f3,f4,f5,f9,f10,rfl,trivial,by rw[hk0,hkd]; rfl⟩
  ·have hk' : ¬ k < l.length:=by simpa using hc
   simp -implicitDefEqProofs only[vQ,↓reduceIte,jB]
   exact⟨f4,f5,trivial,by rw[hk0,jZ (show l.length≤k by omega),XX]⟩
 ·rintro F H' ⟨f4,f5,rfl,hk⟩
  simp -implicitDefEqProofs only[vQ,BD,IM,↓reduceIte,jB,enP,SQ,f4,f5,t.l2]
  refine(Q5 G c.excl c.xm 161 _ (fun x=>eqL x.l l) _ (by omega) fun r=>AZX G l s _ r _ gl (by omega)).use ?_
  simp -implicitDefEqProofs only[vQ,BD,↓reduceIte]
  exact⟨by unfold TI; rw[hk]; rfl,t.hx⟩
 ·rintro F H' ⟨f6,rfl,hk⟩
  simp -implicitDefEqProofs only[vQ,f6]
  exact⟨by unfold TI; rw[hk]; rfl,t.hx⟩
theorem AZ0 (xs:List Nat):xs.map KH=(xs.map fun n:Nat=>(n:Int)).map qencI:=by
 rw[qI]; rfl
def tupF:List Nat→Nat→List Nat × Nat
 | [],k=>([],k)
 | n :: ns,k=>(((tupF ns k).2 % n) :: (tupF ns k).1,(tupF ns k).2 / n)
def TB (ns:List Nat)(k:Nat):List Int:=(tupF ns k).1.map fun n:Nat=>(n:Int)
theorem YG : ∀ (ns:List Nat) (k:Nat),(tupF ns k).1.length=ns.length
 | [],_=>rfl
 | n :: ns,k=>by simp [tupF,YG ns k]
theorem AJR : ∀ (ns:List Nat) (k:Nat),(∀ n∈ns,1≤n)→JK ns (TB ns k)=true
 | [],_,_=>rfl
 | n :: ns,k,h=>by
   have h1:=h n (by simp)
   have ih:=AJR ns k (fun x hx=>h x (by simp [hx]))
   have h2:(tupF ns k).2 % n < n:=Nat.mod_lt _ (by omega)
   show JK (n :: ns) (((tupF ns k).2 % n:Nat) :: TB ns k)=true
   unfold JK
   rw[ih]
   simp; omega
theorem tup_step {ns:List Nat}{K j:Nat}(hj:j < ns.length):tupF (ns.drop j) K=(((tupF (ns.drop (j+1)) K).2 % ns[j]) :: (tupF (ns.drop (j+1)) K).1,(tupF (ns.drop (j+1)) K).2 / ns[j]):=by
 rw[zN hj]; rfl
theorem A6V (h:Hp)(n:Nat)(hn:n≤1048576):KC Tryz.prog true h 26 (.int .i64 (n:Int)) (.int .i64 (n:Int))=some (.own h.length 0 n,h++[.live 1 ((List.replicate n 0).map KH)]):=by
 have hz:NR Tryz.prog 3=some [.int .i64 0]:=by kernel_rfl
 have hr:room n 8:=IR (by omega) (by omega)
 unfold KC
 simp only[XE,sz3,AAN,hz,Int.toNat_natCast]
 rw[if_pos ⟨by omega,Int.le_refl _,hr,rfl⟩]
 simp [KH]
structure Cvr where
 pm:SM
 pts:List Is
 cm:SM
 crs:List Is
 sam:Int
 ill:Int
def encV (v:Cvr):List AV := [.sl v.pm 1 (v.pts.map encL),.sl v.cm 1 (v.crs.map encL),.int .i64 v.sam,.int .i64 v.ill]
theorem A1R (v:Cvr):(encV v)[0]? = some (.sl v.pm 1 (v.pts.map encL)):=rfl
theorem A5B (v:Cvr):(encV v)[1]? = some (.sl v.cm 1 (v.crs.map encL)):=rfl
theorem A5A (v:Cvr):(encV v)[2]? = some (.int .i64 v.sam):=rfl
theorem A1Q (v:Cvr):(encV v)[3]? = some (.int .i64 v.ill):=rfl
theorem encV_len (v:Cvr):(encV v).length=4:=rfl
def rowF (p:Nat→Bool):Nat→List Int→Bool
 | _,[]=>true
 | k,n :: ns=>countB n (p k) && rowF p (k+1) ns
def QW {α:Type}(ok:α→Is→Bool):List α→List Is→Bool
 | [],[]=>true
 | a :: ws,x :: xs=>ok a x && QW ok ws xs
 | _,_=>false
theorem ADU {α:Type}{ok:α→Is→Bool} : ∀ {ws:List α} {xs:List Is},QW ok ws xs=true→ws.length=xs.length
 | [],[],_=>rfl
 | a :: ws,x :: xs,h=>by
   simp only[QW,jX] at h
   simp [ADU h.2]
 | [],_ :: _,h=>by cases h
 | _ :: _,[],h=>by cases h
def kindOf (p:Pt)(k:Nat):Int:=match p.bins[k]? with
 | some b=>b.kind
 | none=>0
def okP (p:Pt)(x:Is):Bool:=(x.l.length == p.bins.length) && rowF (fun k=>kindOf p k == 0) 0 x.l
def okC (m:Mo)(c:Cr)(x:Is):Bool:=(x.l.length == JB (szs m c.pts)) && rowF (fun k=>TI m c (TB (szs m c.pts) k)) 0 x.l
def UQ (G:Nat→AV):Prop := ∀ (ns:List Nat) (s:SM) (K:Nat) (h:Hp),0 < ns.length→ns.length≤4→(∀ n∈ns,1≤n∧n≤64)→K≤1048576 →
 PCall (En G) 114 [.sl s 1 (ns.map KH),.int .i64 (K:Int)] h (.sl .any 1 ((TB ns K).map qencI))
structure CrGood (m:Mo) (c:Cr):Prop where
 here:Here m c.pts
 two:2≤c.pts.length
 four:c.pts.length≤4
 prod:JB (szs m c.pts)≤256
 num:c.excl.length≤256
 excl : ∀ x∈c.excl,JK (szs m c.pts) x.l=true
theorem ATB {m:Mo}{c:Cr}(h:IJ m c=0):CrGood m c:=by
 unfold IJ at h
 split at h
 ·cases h
 ·split at h
  ·cases h
  ·split at h
   ·cases h
   ·split at h
    ·cases h
    ·split at h
     ·cases h
     ·rename_i h1 h2 h3 h4 h5
      have h3':VS m.pts.length none c.pts=true:=by simpa using h3
      refine⟨WC h3',by omega,by omega,by omega,by omega,fun x hx => ?_⟩
      rw[Bool.not_eq_true,wQ] at h5
      have:=h5 x hx
      simpa using this
structure Good (m:Mo):Prop where
 num:m.pts.length+m.crs.length≤16
 full:Full m
 crs : ∀ c∈m.crs,CrGood m c
theorem WE {m:Mo}(h:G8 m=0):Good m:=by
 unfold G8 at h
 split at h
 ·cases h
 ·split at h
  ·rename_i h2; exact absurd h h2
  ·split at h
   ·cases h
   ·split at h
    ·rename_i h4; exact absurd h h4
    ·rename_i h1 h2 h3 h4
     refine⟨by omega,full_of (by simpa using h2),fun c hc=>ATB (TL _ (by simpa using h4) c hc)⟩
def AG5 (m:Mo)(v:Cvr):Bool:=(G8 m == 0) && QW okP m.pts v.pts && QW (okC m) m.crs v.crs && LX v.sam && LX v.ill
structure TwoV (h H:Hp) (m:Mo) (v:Cvr) (vb:Nat):Prop where
 gm:H[h.length]? = some (.live 2 [EE m])
 gv:H[vb]? = some (.live 4 [encV v])
 hx : ∃ x,H=h++x
theorem TwoV.mk' (h:Hp)(m:Mo)(v:Cvr):TwoV h (h++[.live 2 [EE m]]++[.live 4 [encV v]]) m v (h++[ABlk.live 2 [EE m]]).length:=⟨CP (CZ _ _),CZ _ _,⟨_,zD _ _ _⟩⟩
section
variable {h H:Hp} {m:Mo} {v:Cvr} {vb:Nat} (t:TwoV h H m v vb)
include t
theorem TwoV.m0:D5 Tryz.prog H 22 (.ptr h.length 0 0)=some (.sl m.pm 6 (m.pts.map GG)):=by rw[DU ZI t.gm (row:=EE m) rfl,RU]
theorem TwoV.m1:D5 Tryz.prog H 23 (.ptr h.length 0 1)=some (.sl m.cm 3 (m.crs.map G5)):=by rw[DU AAT t.gm (row:=EE m) rfl,TP]
theorem TwoV.l0:D5 Tryz.prog H 67 (.ptr vb 0 0)=some (.sl v.pm 1 (v.pts.map encL)):=by rw[DU UN t.gv (row:=encV v) rfl,A1R]
theorem TwoV.l1:D5 Tryz.prog H 67 (.ptr vb 0 1)=some (.sl v.cm 1 (v.crs.map encL)):=by rw[DU UN t.gv (row:=encV v) rfl,A5B]
theorem TwoV.l2:D5 Tryz.prog H 3 (.ptr vb 0 2)=some (.int .i64 v.sam):=by rw[DU ag3 t.gv (row:=encV v) rfl,A5A]
theorem TwoV.l3:D5 Tryz.prog H 3 (.ptr vb 0 3)=some (.int .i64 v.ill):=by rw[DU ag3 t.gv (row:=encV v) rfl,A1Q]
end
end Go.Proofs.YtfpagfhhhlljjaaGreatDoor.Cov
