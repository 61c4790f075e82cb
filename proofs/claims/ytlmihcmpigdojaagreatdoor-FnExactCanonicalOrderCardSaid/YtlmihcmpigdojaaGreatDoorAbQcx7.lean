/- Merged texts (7 of 14) of the proof that ends in Cxy: Kg Se Sd Ki Kiw Sh Ke St Sc Re Kd Kf. -/
import Derived.Test.YtlmihcmpigdojaaGreatDoorAbQcx6
import Derived.Laws.CopyRow
import Derived.Laws.IdiomCopy
/- The reference's codes. -/
namespace Go.Ab.Vg
set_option linter.unusedSimpArgs false
set_option linter.unusedVariables false
abbrev noneZ (many:Int):List Int:=List.replicate many.toNat (-1)
abbrev noneZ_pre (many:Int):Prop:=0≤many∧many≤1048576
def noneZ_wp (many:Int) (Z:(List Int)→Prop):Prop:=
  loopW (σ:=Int × (List Int)) (fun (i12,l13) K17=>∀ c18:Bool,c18=decide (i12<many)→((c18=true→(l13.length+1≤1073741824)∧∀ l21:List Int,l21=l13++[(-1)]→(I64 (i12+1))∧∀ v31:Int,v31=i12+1→K17 (v31,l21))∧(c18=false→Z l13))) (0,([]:List Int))
theorem noneZ_vc (many:Int) (h:noneZ_pre many):noneZ_wp many (fun y=>y=noneZ many):=by
  unfold noneZ_wp
  obtain⟨h1,h2⟩:=h
  refine loopW.upL many.toNat (fun k out=>out=List.replicate k (-1)) [] rfl ?_
  rintro k _ K hk rfl IH
  simp only[forall_eq,decide_eq_true_eq,decide_eq_false_iff_not,I64]
  refine⟨fun h3=>⟨by simp;omega,by omega,IH (by omega) _ List.replicate_succ'.symm⟩,fun h3=>?_⟩
  rw[show k=many.toNat by omega]
abbrev ownZ (l:List Int):List Int:=l
abbrev ownZ_pre (l:List Int):Prop:=l.length≤1048576
def ownZ_wp (l:List Int) (Z:(List Int)→Prop):Prop:=
  (([]:List Int).length+l.length≤1073741824)∧∀ l4:List Int,l4=([]:List Int)++l→Z l4
theorem ownZ_vc (l:List Int) (h:ownZ_pre l):ownZ_wp l (fun y=>y=ownZ l):=by
  unfold ownZ_wp
  exact⟨by simp;omega,fun _ h=>by simpa using h⟩
def cntZ (l:List Int):Int:=((l.filter fun x=>decide (0≤x)).length:Int)
abbrev cntZ_pre (l:List Int):Prop:=l.length≤1048576
def cntZ_wp (edges:List Int) (Z:Int→Prop):Prop:=
  loopW (σ:=Int × Int) (fun (many5,i6) K9=>∀ len10:Int,len10=(edges.length:Int)→∀ c12:Bool,c12=decide (i6<len10)→((c12=true→(0≤i6∧i6<edges.length)∧∀ x15:Int,x15=at' edges i6→∀ c17:Bool,c17=decide (0≤x15)→((c17=true→(I64 (many5+1))∧∀ v20:Int,v20=many5+1→(I64 (i6+1))∧∀ v23:Int,v23=i6+1→K9 (v20,v23))∧(c17=false→(I64 (i6+1))∧∀ v27:Int,v27=i6+1→K9 (many5,v27))))∧(c12=false→Z many5))) (0,0)
theorem cntZ_vc (l:List Int) (h:cntZ_pre l):cntZ_wp l (fun y=>y=cntZ l):=by
  unfold cntZ_wp
  refine loopW.upR l.length (fun k c=>c=(((l.take k).filter fun x=>decide (0≤x)).length:Int)) 0 (by simp) ?_
  rintro k _ K hk rfl IH
  have hl:((l.take k).filter fun x=>decide (0≤x)).length≤k:=Nat.le_trans (List.length_filter_le _ _) (by simp;omega)
  have h':l.length≤1048576:=h
  simp only[forall_eq,decide_eq_true_eq,decide_eq_false_iff_not,I64]
  refine⟨fun h3=>?_,fun h3=>?_⟩
  · have hkl:k<l.length:=by omega
    rw[at_lt hkl]
    refine⟨by omega,fun h4=>⟨by omega,by omega,IH hkl _ ?_⟩,fun h4=>⟨by omega,IH hkl _ ?_⟩⟩
    · rw[← List.take_append_getElem hkl,List.filter_append];simp[h4]
    · rw[← List.take_append_getElem hkl,List.filter_append];simp[h4]
  · rw[show k=l.length by omega,List.take_length];rfl
abbrev parZ (p:Int) (pl:List Int):Int:=placeC pl p
abbrev parZ_pre (p:Int) (pl:List Int):Prop:=p<pl.length∧I64 (-1 - p)∧(0≤p→I64 (4+at' pl p))
def parZ_wp (parent:Int) (places:List Int) (Z:Int→Prop):Prop:=
  ∀ c2:Bool,c2=decide (parent<0)→((c2=true→(I64 ((-1) - parent))∧∀ v5:Int,v5=(-1) - parent→Z v5)∧(c2=false→(0≤parent∧parent<places.length)∧∀ x8:Int,x8=at' places parent→(I64 (4+x8))∧∀ v11:Int,v11=4+x8→Z v11))
theorem parZ_vc (p:Int) (pl:List Int) (h:parZ_pre p pl):parZ_wp p pl (fun y=>y=parZ p pl):=by
  unfold parZ_wp
  obtain⟨h1,h2,h3⟩:=h
  simp only[forall_eq,decide_eq_true_eq,decide_eq_false_iff_not]
  exact⟨fun h4=>⟨h2,by rw[parZ,placeC,if_pos h4]⟩,fun h4=>⟨by omega,h3 (by omega),by rw[parZ,placeC,if_neg h4]⟩⟩
def toldZ (b:Big):List Int→List Int→List Int × List Int
  | now,[]=>([],now)
  | now,l::t=>
    if l ≥ b.edges then let r:=toldZ b now t;((l - b.edges)::r.1,r.2)
    else let now2:=if at' now l<0 then now.set l.toNat (cntZ now) else now
      let r:=toldZ b now2 t;((16+at' now2 l)::r.1,r.2)
theorem toldZ_len (b:Big):∀ (l now:List Int),(toldZ b now l).1.length=l.length
  | [],_=>rfl
  | x::l,now=>by
    simp only[toldZ]
    split
    · simp[toldZ_len b l now]
    · simp[toldZ_len b l _]
structure NumsOk (b:Big) (now:List Int):Prop where
  ed:0≤b.edges∧b.edges≤8
  len:(now.length:Int)=b.edges
  val:∀ v ∈ now,-1≤v∧v≤8
theorem cntZ_le (l:List Int):0≤cntZ l∧cntZ l≤l.length:=by
  have:=List.length_filter_le (fun x=>decide (0≤x)) l
  simp only[cntZ];omega
theorem NumsOk.set {b:Big} {now:List Int} (h:NumsOk b now) (l:Int):NumsOk b (now.set l.toNat (cntZ now)):=by
  have h1:=cntZ_le now
  have h2:=h.len
  have h3:=h.ed
  refine⟨h.ed,by simpa using h.len,fun v hv=>?_⟩
  rcases List.mem_or_eq_of_mem_set hv with hv | rfl
  · exact h.val v hv
  · omega
theorem drop_at {l:List Int} {k:Nat} (h:k<l.length):l.drop k=at' l (k:Int)::l.drop (k+1):=by rw[at_lt h,List.drop_eq_getElem_cons h]
abbrev l5Told (b:Big) (links edges:List Int):List Int × List Int:=toldZ b edges links
abbrev l5Told_pre (b:Big) (links edges:List Int):Prop:=NumsOk b edges∧links.length≤1048576∧∀ l ∈ links,0≤l∧l≤1048576
def l5Told_wp (b:Big) (links:List Int) (edges:List Int) (Z:((List Int) × (List Int))→Prop):Prop:=
  (ownZ_pre edges)∧∀ r8:List Int,r8=ownZ edges→loopW (σ:=Int × (List Int) × (List Int)) (fun (i29,l30,l31) K36=>∀ len37:Int,len37=(links.length:Int)→∀ c39:Bool,c39=decide (i29<len37)→((c39=true→(0≤i29∧i29<links.length)∧∀ x42:Int,x42=at' links i29→∀ c44:Bool,c44=decide (b.edges≤x42)→((c44=true→(0≤i29∧i29<links.length)∧∀ x47:Int,x47=at' links i29→(I64 (x42 - b.edges))∧∀ v51:Int,v51=x42 - b.edges→(l30.length+1≤1073741824)∧∀ l54:List Int,l54=l30++[v51]→(I64 (i29+1))∧∀ v65:Int,v65=i29+1→K36 (v65,l54,l31))∧(c44=false→(0≤i29∧i29<links.length)∧∀ x68:Int,x68=at' links i29→(0≤x42∧x42<l31.length)∧∀ x76:Int,x76=at' l31 x42→∀ c79:Bool,c79=decide (x76<0)→((c79=true→(0≤i29∧i29<links.length)∧∀ x85:Int,x85=at' links i29→(cntZ_pre l31)∧∀ r88:Int,r88=cntZ l31→(0≤x85∧x85<l31.length)∧∀ x94:Int,x94=at' l31 x85→∀ l97:List Int,l97=l31.set x85.toNat r88→(0≤i29∧i29<links.length)∧∀ x105:Int,x105=at' links i29→(0≤x105∧x105<l97.length)∧∀ x112:Int,x112=at' l97 x105→(I64 (16+x112))∧∀ v116:Int,v116=16+x112→(l30.length+1≤1073741824)∧∀ l119:List Int,l119=l30++[v116]→(I64 (i29+1))∧∀ v130:Int,v130=i29+1→K36 (v130,l119,l97))∧(c79=false→(0≤i29∧i29<links.length)∧∀ x133:Int,x133=at' links i29→(0≤x133∧x133<l31.length)∧∀ x140:Int,x140=at' l31 x133→(I64 (16+x140))∧∀ v144:Int,v144=16+x140→(l30.length+1≤1073741824)∧∀ l147:List Int,l147=l30++[v144]→(I64 (i29+1))∧∀ v158:Int,v158=i29+1→K36 (v158,l147,l31))))))∧(c39=false→Z (l30,l31)))) (0,([]:List Int),r8)
theorem l5Told_vc (b:Big) (links edges:List Int) (h:l5Told_pre b links edges):l5Told_wp b links edges (fun y=>y=l5Told b links edges):=by
  unfold l5Told_wp
  obtain⟨h1,h2,h3⟩:=h
  have hE:=h1.ed
  have hL:=h1.len
  refine⟨by simp only[ownZ_pre];omega,?_⟩
  intro r8 hr8
  rw[show r8=edges from hr8]
  refine loopW.upL (τ:=List Int × List Int) links.length (fun k t=>NumsOk b t.2∧t.1.length=k∧toldZ b edges links=(t.1++(toldZ b t.2 (links.drop k)).1,(toldZ b t.2 (links.drop k)).2)) ([],edges) ⟨h1,rfl,rfl⟩ ?_
  rintro k ⟨out,now⟩ K hk ⟨hN,hlen,hI⟩ IH
  simp only at hN hlen hI
  have hnl:=hN.len
  simp only[forall_eq,decide_eq_true_eq,decide_eq_false_iff_not]
  refine⟨fun h4=>?_,fun h4=>?_⟩
  · have hkl:k<links.length:=by omega
    rw[drop_at hkl] at hI
    have hx:=h3 (at' links (k:Int)) (by rw[at_lt hkl];exact List.getElem_mem hkl)
    generalize at' links (k:Int)=x at hI hx
    refine⟨by omega,fun h5=>?_,fun h5=>?_⟩
    · refine⟨by omega,⟨by omega,by omega⟩,by omega,⟨by omega,by omega⟩,IH hkl (_,_) ⟨hN,by simp[hlen],?_⟩⟩
      rw[hI,toldZ,if_pos h5];simp
    · have h5':¬ x ≥ b.edges:=h5
      have hr:0≤x∧x<now.length:=⟨hx.1,by omega⟩
      refine⟨by omega,hr,fun h6=>?_,fun h6=>?_⟩
      · have hv:=at_mem (l:=now.set x.toNat (cntZ now)) (i:=x) ⟨hr.1,by simpa using hr.2⟩
        have hv2:=(hN.set x).val _ hv
        refine⟨by omega,by simp only[cntZ_pre];omega,hr,by omega,⟨hr.1,by simpa using hr.2⟩,⟨by omega,by omega⟩,by omega,⟨by omega,by omega⟩,IH hkl (_,_) ⟨hN.set x,by simp[hlen],?_⟩⟩
        rw[hI,toldZ,if_neg h5'];simp[h6]
      · have hv:=at_mem (l:=now) (i:=x) hr
        have hv2:=hN.val _ hv
        refine⟨by omega,hr,⟨by omega,by omega⟩,by omega,⟨by omega,by omega⟩,IH hkl (_,_) ⟨hN,by simp[hlen],?_⟩⟩
        rw[hI,toldZ,if_neg h5'];simp[h6]
  · have hkl:k=links.length:=by omega
    rw[hkl,List.drop_length] at hI
    simp only[l5Told,hI,toldZ,List.append_nil]
def chunkZ (b:Big) (node:Int) (places edges:List Int):List Int × List Int:=((at' b.nodes node).control::placeC places (at' b.nodes node).parent::(toldZ b edges (at' b.nodes node).links).1,(toldZ b edges (at' b.nodes node).links).2)
abbrev chunkZ_pre (b:Big) (node:Int) (places edges:List Int):Prop:=(0≤node∧node<b.nodes.length)∧l5Told_pre b (at' b.nodes node).links edges∧parZ_pre (at' b.nodes node).parent places
def chunkZ_wp (b:Big) (node:Int) (places:List Int) (edges:List Int) (Z:((List Int) × (List Int))→Prop):Prop:=
  (0≤node∧node<b.nodes.length)∧∀ x5:GNode,x5=at' b.nodes node→(l5Told_pre b x5.links edges)∧∀ r10:(List Int) × (List Int),r10=l5Told b x5.links edges→(parZ_pre x5.parent places)∧∀ r27:Int,r27=parZ x5.parent places→∀ l28:List Int,l28=[x5.control,r27]→(l28.length+r10.1.length≤1073741824)∧∀ l37:List Int,l37=l28++r10.1→Z (l37,r10.2)
theorem chunkZ_vc (b:Big) (node:Int) (places edges:List Int) (h:chunkZ_pre b node places edges):chunkZ_wp b node places edges (fun y=>y=chunkZ b node places edges):=by
  unfold chunkZ_wp
  obtain⟨h1,h2,h3⟩:=h
  simp only[forall_eq]
  refine⟨h1,h2,h3,?_,?_⟩
  · have h4:(l5Told b (at' b.nodes node).links edges).1.length=(at' b.nodes node).links.length:=toldZ_len b _ _
    have:=h2.2.1
    simp;omega
  · simp[chunkZ]
def tailZ (b:Big) (places edges:List Int):List Int × List Int:=(b.sites.map (placeC places)++(toldZ b edges (b.inner.map fun w=>w.link)).1,(toldZ b edges (b.inner.map fun w=>w.link)).2)
abbrev tailZ_pre (b:Big) (places edges:List Int):Prop:=l5Told_pre b (b.inner.map fun w=>w.link) edges∧b.sites.length≤1048576∧∀ p ∈ b.sites,parZ_pre p places
def tailZ_wp (b:Big) (places:List Int) (edges:List Int) (Z:((List Int) × (List Int))→Prop):Prop:=
  loopW (σ:=Int × (List Int)) (fun (i14,l15) K19=>∀ len20:Int,len20=(b.sites.length:Int)→∀ c22:Bool,c22=decide (i14<len20)→((c22=true→(0≤i14∧i14<b.sites.length)∧∀ x25:Int,x25=at' b.sites i14→(parZ_pre x25 places)∧∀ r28:Int,r28=parZ x25 places→(l15.length+1≤1073741824)∧∀ l30:List Int,l30=l15++[r28]→(I64 (i14+1))∧∀ v40:Int,v40=i14+1→K19 (v40,l30))∧(c22=false→loopW (σ:=Int × (List Int)) (fun (i55,l56) K61=>∀ len62:Int,len62=(b.inner.length:Int)→∀ c64:Bool,c64=decide (i55<len62)→((c64=true→(0≤i55∧i55<b.inner.length)∧∀ x67:Wire,x67=at' b.inner i55→(l56.length+1≤1073741824)∧∀ l70:List Int,l70=l56++[x67.link]→(I64 (i55+1))∧∀ v81:Int,v81=i55+1→K61 (v81,l70))∧(c64=false→(l5Told_pre b l56 edges)∧∀ r84:(List Int) × (List Int),r84=l5Told b l56 edges→(l15.length+r84.1.length≤1073741824)∧∀ l102:List Int,l102=l15++r84.1→Z (l102,r84.2)))) (0,([]:List Int))))) (0,([]:List Int))
theorem tailZ_vc (b:Big) (places edges:List Int) (h:tailZ_pre b places edges):tailZ_wp b places edges (fun y=>y=tailZ b places edges):=by
  unfold tailZ_wp
  obtain⟨h1,h2,h3⟩:=h
  have hi:b.inner.length≤1048576:=by have:=h1.2.1;simpa using this
  refine loopW.upL b.sites.length (fun k out=>out=(b.sites.take k).map (placeC places)) [] (by simp) ?_
  rintro k _ K hk rfl IH
  simp only[forall_eq,decide_eq_true_eq,decide_eq_false_iff_not,I64]
  refine⟨fun h4=>?_,fun h4=>?_⟩
  · have hkl:k<b.sites.length:=by omega
    rw[at_lt hkl]
    refine⟨by omega,h3 _ (List.getElem_mem hkl),by simp;omega,by omega,IH hkl _ ?_⟩
    rw[← List.take_append_getElem hkl,List.map_append];rfl
  · refine loopW.upL b.inner.length (fun k out=>out=(b.inner.take k).map fun w=>w.link) [] (by simp) ?_
    rintro j _ K2 hj rfl IH2
    simp only[forall_eq,decide_eq_true_eq,decide_eq_false_iff_not]
    refine⟨fun h5=>?_,fun h5=>?_⟩
    · have hjl:j<b.inner.length:=by omega
      rw[at_lt hjl]
      refine⟨by omega,by simp;omega,by omega,IH2 hjl _ ?_⟩
      rw[← List.take_append_getElem hjl,List.map_append];rfl
    · rw[show k=b.sites.length by omega,show j=b.inner.length by omega,List.take_length,List.take_length]
      refine⟨h1,?_,rfl⟩
      have h6:(l5Told b (b.inner.map fun w=>w.link) edges).1.length=(b.inner.map fun w=>w.link).length:=toldZ_len b _ _
      simp only[List.length_map] at h6 ⊢
      omega
structure Rz where
  out:List Int
  ed:List Int
  pl:List Int
structure RzOk (b:Big) (i:Nat) (s:Rz):Prop where
  nums:NumsOk b s.ed
  pl:s.pl.length=b.nodes.length
  lo:∀ v ∈ s.pl,-1≤v∧v≤8
  out:s.out.length≤5 * i
theorem RzOk.told {sig:Sig} {b:Big} {i:Nat} {s:Rz} (hv:ValidB sig b) (h:RzOk b i s) {k:Int} (hk:0≤k∧k<b.nodes.length):l5Told_pre b (at' b.nodes k).links s.ed:=by
  have h1:=hv.links3 hk
  refine⟨h.nums,by omega,fun l hl=>?_⟩
  have h2:=hv.linksAt hk l hl
  have h3:=hv.edges
  have h4:=hv.outer
  omega
theorem RzOk.par {b:Big} {i:Nat} {s:Rz} (h:RzOk b i s) (hn:b.nodes.length≤8) {p:Int} (h1 : -4≤p) (h2:p<b.nodes.length):parZ_pre p s.pl:=by
  refine⟨by rw[h.pl];omega,⟨by omega,by omega⟩,fun h0=>?_⟩
  have:=h.lo _ (at_mem (l:=s.pl) (i:=p) ⟨h0,by rw[h.pl];omega⟩)
  exact⟨by omega,by omega⟩
theorem RzOk.chunk {sig:Sig} {b:Big} {i:Nat} {s:Rz} (hv:ValidB sig b) (h:RzOk b i s) {k:Int} (hk:0≤k∧k<b.nodes.length):chunkZ_pre b k s.pl s.ed:=by
  have h1:=hv.parAt hk
  have h2:=hv.roots
  exact⟨hk,h.told hv hk,h.par hv.len (by omega) (by omega)⟩
theorem RzOk.tail {sig:Sig} {b:Big} {i:Nat} {s:Rz} (hv:ValidB sig b) (h:RzOk b i s):tailZ_pre b s.pl s.ed:=by
  have h1:=hv.slen
  have h2:=hv.inner
  have h3:=hv.edges
  have h4:=hv.outer
  have h5:=hv.roots
  refine⟨⟨h.nums,by simp;omega,fun l hl=>?_⟩,by omega,fun p hp=>?_⟩
  · obtain⟨w,hw,rfl⟩:=List.mem_map.1 hl
    have:=hv.wires w hw
    omega
  · have:=hv.sites p hp
    exact h.par hv.len (by omega) (by omega)
end Go.Ab.Vg
/- The abstract machine, part Se: what is lent to a call by a pointer to a variable, or by a function value. -/
namespace Go.Ab
section
variable {H:Heap} {n:Nat} {K K':List OwnE} {ids:List Id}
end
section
variable {P:Program} {f:FuncId} {N:Nat} {k:List Item} {Q:AVal→Heap→Nat→Prop} {Ty:Types} {l:List Oper} {ρ:Env} {H:Heap} {n:Nat}
theorem SubL.append {as1 bs cs ds:List AVal} (h:SubL as1 bs) (h':SubL cs ds):SubL (as1++cs) (bs++ds):=by
  induction h with
  | nil=>exact h'
  | cons h _ ih=>exact .cons h ih
end
end Go.Ab
/- The abstract machine, part Sd: regions that draw their order, with a chain of operations that turn the heap; all other operations give the same whenever they come. -/
namespace Go.Ab
set_option linter.unusedSectionVars false
set_option linter.unusedVariables false
section
variable (P:Program) (N:Nat) (ops:Array Oper) (Stab:Heap→Nat→Prop) (hard:List Nat)
def lateC (j:Nat):Bool:=(List.range ops.size).all fun k=>hard.contains k || (behind ops k).contains j
def StepF (o:Oper) (s s':AS):Prop:=∃ v,s'=(s.1.put o.dst v,s.2)∧((gok ops o s.1=some true∧∀ H n,Stab H n→OpSem P N o (loc o.op s.1) H n (isV v H n))∨(gok ops o s.1=some false∧v=skv))
def AnyC (R:AS→Prop):Nat→Array Bool→AS→Prop
  | 0,listed,s=>Region.ready .any ops listed=[]∧R s
  | fuel+1,listed,s=>(Region.ready .any ops listed=[]→R s)∧∀ i ∈ Region.ready .any ops listed,∃ o,ops[i]?=some o ∧
      ((i ∉ hard∧Stab s.2.1 s.2.2∧∃ s',StepF P N ops Stab o s s'∧AnyC R fuel (listed.setIfInBounds i true) s') ∨
       (i ∈ hard∧gok ops o s.1=some true∧∃ post:AVal→Heap→Nat→Prop,OpSem P N o (loc o.op s.1) s.2.1 s.2.2 post∧∀ v H' n',post v H' n'→(lateC ops hard i=false→Stab H' n')∧AnyC R fuel (listed.setIfInBounds i true) (s.1.put o.dst v,H',n')))
inductive OrdT where
  | fin
  | stop
  | free (i:Nat) (t:OrdT)
  | hard (i:Nat) (t a:OrdT)
def OrdT.alts:OrdT→List Nat
  | .hard i _ a=>i::a.alts
  | _=>[]
def OrdT.depth:OrdT→Nat
  | .free _ t=>t.depth+1
  | .hard _ t a=>max (t.depth+1) a.depth
  | _=>0
def headT (t:OrdT) (listed:Array Bool):Bool:=match t with
  | .hard _ _ _ => !(Region.ready .any ops listed).isEmpty && (Region.ready .any ops listed).all fun i=>t.alts.contains i
  | .stop=>false
  | _=>true
def lexT:OrdT→Array Bool→Bool
  | .fin,listed=>(Region.ready .any ops listed).isEmpty
  | .stop,_=>true
  | .free i t,listed => !hard.contains i && (Region.ready .any ops listed).contains i && freeD (fun _=>0) ops listed i && headT ops t (listed.setIfInBounds i true) && lexT t (listed.setIfInBounds i true)
  | .hard i t a,listed=>hard.contains i && headT ops t (listed.setIfInBounds i true) && lexT t (listed.setIfInBounds i true) && lexT a listed
def HardT (R':AS→Prop) (i:Nat) (s:AS):Prop:=∃ o,ops[i]?=some o∧gok ops o s.1=some true∧∃ post:AVal→Heap→Nat→Prop,OpSem P N o (loc o.op s.1) s.2.1 s.2.2 post∧∀ v H' n',post v H' n'→(lateC ops hard i=false→Stab H' n')∧R' (s.1.put o.dst v,H',n')
def RunT (R:AS→Prop):OrdT→AS→Prop
  | .fin,s=>R s
  | .stop,_=>True
  | .free i t,s=>∃ o,ops[i]?=some o∧Stab s.2.1 s.2.2∧∃ s',StepF P N ops Stab o s s'∧RunT R t s'
  | .hard i t a,s=>HardT P N ops Stab hard (RunT R t) i s∧RunT R a s
def drawT (t:OrdT):Bool:=headT ops t (Array.replicate ops.size false) && lexT ops hard t (Array.replicate ops.size false) && decide (t.depth≤ops.size)
end
section
variable {P:Program} {N:Nat} {ops:Array Oper} {Stab:Heap→Nat→Prop} {hard:List Nat}
theorem AnyC.first {R:AS→Prop} {i:Nat} {oi:Oper} (hi:ops[i]?=some oi) (hih:i ∉ hard) (hD:∀ j oj,ops[j]?=some oj→j ∈ behind ops i→j ≠ i→∃ e ∈ oj.after,Region.binds .any e=true∧e.on ∈ behind ops i):∀ (fuel:Nat) (listed:Array Bool) (s s':AS),
    (∀ j ∈ behind ops i,listed.getD j true=false)→(∀ j oj,ops[j]?=some oj→j ≠ i→listed.getD j true=false→j ∉ behind ops i→oi.apart ops oj=true) →
    i ∈ Region.ready .any ops listed→Stab s.2.1 s.2.2→StepF P N ops Stab oi s s'→AnyC P N ops Stab hard R fuel (listed.setIfInBounds i true) s'→AnyC P N ops Stab hard R (fuel+1) listed s:=by
  intro fuel
  induction fuel with
  | zero=>
    intro listed s s' _ _ hr hS hst H
    refine⟨fun h=>(by rw[h] at hr;cases hr),fun j hj=>?_⟩
    by_cases hji:j=i
    · subst hji;exact⟨oi,hi,.inl ⟨hih,hS,s',hst,H⟩⟩
    · have:=ready_mono hj hji
      rw[H.1] at this
      cases this
  | succ fuel ih=>
    intro listed s s' hinv hfree hr hS hst H
    refine⟨fun h=>(by rw[h] at hr;cases hr),fun j hj=>?_⟩
    by_cases hji:j=i
    · subst hji;exact⟨oi,hi,.inl ⟨hih,hS,s',hst,H⟩⟩
    · obtain⟨oj,hoj,hbr⟩:=H.2 j (ready_mono hj hji)
      obtain⟨hjun,oj',hoj',hall⟩:=mem_ready.1 hj
      rw[hoj] at hoj'
      cases hoj'
      have hnot:j ∉ behind ops i:=fun hd=>by
        obtain⟨e,he,hb,hed⟩:=hD j oj hoj hd hji
        have h1:=hall e he hb
        have h0:=hinv e.on hed
        rcases Nat.lt_or_ge e.on listed.size with h' | h'
        · simp[h'] at h0 h1;rw[h0] at h1;cases h1
        · simp[Array.getElem?_eq_none h'] at h1
      obtain⟨h1,h2,h3⟩:=Oper.apart_spec (hfree j oj hoj hji hjun hnot)
      have hinv':∀ k ∈ behind ops i,(listed.setIfInBounds j true).getD k true=false:=fun k hk=>by
        have hjk:j ≠ k:=fun he=>hnot (he ▸ hk)
        rw[getD_set_ne true hjk]
        exact hinv k hk
      have hfree':∀ k ok,ops[k]?=some ok→k ≠ i→(listed.setIfInBounds j true).getD k true=false→k ∉ behind ops i→oi.apart ops ok=true:=fun k ok hk hki hun hno=>by
        refine hfree k ok hk hki ?_ hno
        by_cases hjk:j=k
        · subst hjk;exact hjun
        · rw[getD_set_ne true hjk] at hun;exact hun
      obtain⟨v,rfl,hv⟩:=hst
      have lj:∀ v,loc oj.op (s.1.put oi.dst v)=loc oj.op s.1:=fun v=>loc_put (looks_tmps h1)
      have li:∀ v,loc oi.op (s.1.put oj.dst v)=loc oi.op s.1:=fun v=>loc_put (looks_tmps h3)
      have gj:∀ v,gok ops oj (s.1.put oi.dst v)=gok ops oj s.1:=fun v=>gok_put h1
      have gi:∀ v,gok ops oi (s.1.put oj.dst v)=gok ops oi s.1:=fun v=>gok_put h3
      have hvi:∀ u,(gok ops oi (s.1.put oj.dst u)=some true∧∀ H n,Stab H n→OpSem P N oi (loc oi.op (s.1.put oj.dst u)) H n (isV v H n))∨(gok ops oi (s.1.put oj.dst u)=some false∧v=skv):=fun u=>by
        rw[gi,li]
        exact hv
      rcases hbr with ⟨hjh,_,s'',⟨u,rfl,hu⟩,hrest⟩ | ⟨hjh,hgj,post,hoq,hrest⟩
      · simp only[lj,gj] at hu
        refine⟨oj,hoj,.inl ⟨hjh,hS,_,⟨u,rfl,hu⟩,ih (listed.setIfInBounds j true) (s.1.put oj.dst u,s.2) ((s.1.put oj.dst u).put oi.dst v,s.2) hinv' hfree' (ready_mono hr (Ne.symm hji)) hS ⟨v,rfl,hvi u⟩ ?_⟩⟩
        rw[Array.setIfInBounds_comm _ _ hji,← put_comm v u h2]
        exact hrest
      · simp only[lj,gj] at hoq hgj
        refine⟨oj,hoj,.inr ⟨hjh,hgj,post,hoq,fun u H' n' hp=>?_⟩⟩
        obtain⟨hS',hrest'⟩:=hrest u H' n' hp
        refine⟨hS',?_⟩
        have hlate:lateC ops hard j=false:=by
          rw[Bool.eq_false_iff]
          intro hl
          have:=List.all_eq_true.1 hl i (List.mem_range.2 (Array.getElem?_eq_some_iff.1 hi).1)
          simp only[Bool.or_eq_true,List.contains_iff_mem] at this
          exact this.elim hih hnot
        refine ih (listed.setIfInBounds j true) (s.1.put oj.dst u,H',n') ((s.1.put oj.dst u).put oi.dst v,H',n') hinv' hfree' (ready_mono hr (Ne.symm hji)) (hS' hlate) ⟨v,rfl,hvi u⟩ ?_
        rw[Array.setIfInBounds_comm _ _ hji,← put_comm v u h2]
        exact hrest'
theorem RunT.alt {R:AS→Prop} {s:AS} {listed:Array Bool} {j:Nat}:∀ {t:OrdT},RunT P N ops Stab hard R t s→lexT ops hard t listed=true→j ∈ t.alts→j ∈ hard∧∃ t',t'.depth+1≤t.depth∧headT ops t' (listed.setIfInBounds j true)=true∧lexT ops hard t' (listed.setIfInBounds j true)=true∧HardT P N ops Stab hard (RunT P N ops Stab hard R t') j s
  | .hard i t a,h,hl,hj=>by
    simp only[lexT,Bool.and_eq_true,List.contains_iff_mem] at hl
    rcases List.mem_cons.1 hj with rfl | hj
    · exact⟨hl.1.1.1,t,by simp only[OrdT.depth];omega,hl.1.1.2,hl.1.2,h.1⟩
    · obtain⟨h1,t',h2,h3⟩:=RunT.alt (t:=a) h.2 hl.2 hj
      exact⟨h1,t',by simp only[OrdT.depth];omega,h3⟩
  | .fin,_,_,hj=>by cases hj
  | .stop,_,_,hj=>by cases hj
  | .free _ _,_,_,hj=>by cases hj
theorem AnyC.none {R:AS→Prop} {fuel:Nat} {listed:Array Bool} {s:AS} (h:Region.ready .any ops listed=[]) (hR:R s):AnyC P N ops Stab hard R fuel listed s:=by
  cases fuel with
  | zero=>exact⟨h,hR⟩
  | succ fuel=>exact⟨fun _=>hR,fun i hi=>by rw[h] at hi;cases hi⟩
theorem AnyC.lex {R:AS→Prop}:∀ (fuel:Nat) (t:OrdT) (listed:Array Bool) (s:AS),t.depth≤fuel→headT ops t listed=true→lexT ops hard t listed=true→RunT P N ops Stab hard R t s→AnyC P N ops Stab hard R fuel listed s
  | _,.fin,listed,s,_,_,hB,h=>AnyC.none (by simpa[lexT] using hB) h
  | _,.stop,_,_,_,hh,_,_=>by cases hh
  | 0,.free i t,_,_,hd,_,_,_=>by simp[OrdT.depth] at hd
  | fuel+1,.free i t,listed,s,hd,_,hB,⟨o,ho,hS,s',hst,hrest⟩=>by
    simp only[lexT,Bool.and_eq_true,Bool.not_eq_true',List.contains_iff_mem] at hB
    obtain⟨⟨⟨⟨h1,h2⟩,h3⟩,h4⟩,h5⟩:=hB
    obtain⟨f1,f2,f3⟩:=freeD_spec ho h3
    exact AnyC.first ho (by simpa using h1) f1 fuel listed s s' f2 (fun j oj h1 h2 h3 h4=>(f3 j oj h1 h2 h3 h4).1) h2 hS hst (AnyC.lex fuel t _ _ (by simp only[OrdT.depth] at hd;omega) h4 h5 hrest)
  | 0,.hard i t a,_,_,hd,_,_,_=>by simp only[OrdT.depth] at hd;omega
  | fuel+1,.hard i t a,listed,s,hd,hh,hB,h=>by
    simp only[headT,Bool.and_eq_true,Bool.not_eq_true',List.isEmpty_eq_false_iff] at hh
    refine⟨fun h=>absurd h hh.1,fun j hj=>?_⟩
    have hja:j ∈ (OrdT.hard i t a).alts:=by
      have:=List.all_eq_true.1 hh.2 j hj
      simpa using this
    obtain⟨hjh,t',hd',h1,h2,o,ho,hg,post,hop,hrest⟩:=RunT.alt h hB hja
    exact⟨o,ho,.inr ⟨hjh,hg,post,hop,fun v H' n' hp=>⟨(hrest v H' n' hp).1,AnyC.lex fuel t' _ _ (by omega) h1 h2 (hrest v H' n' hp).2⟩⟩⟩
theorem AnyC.sound {R:AS→Prop} (hN:ops.toList.all (fun o=>dok N o.dst)=true) {Q:Exit→Act→World→Prop} {c0:Ctx} (hQ:∀ a c ρ,Keeps c0 c→Good c→RelE N c ρ a→R (ρ,c.H,c.n)→Q .normal a c.w) :
    ∀ (fuel:Nat) (listed:Array Bool) (ρ:Env) (c:Ctx) (a:Act),Keeps c0 c→Good c→RelE N c ρ a→AnyC P N ops Stab hard R fuel listed (ρ,c.H,c.n)→wpAny P .any ops Q fuel listed a c.w
  | 0,_,_,_,_,hk,g,r,h=>⟨h.1,hQ _ _ _ hk g r h.2⟩
  | fuel+1,listed,ρ,c,a,hk,g,r,h=>by
    refine⟨fun h0=>hQ _ _ _ hk g r (h.1 h0),fun i hi=>?_⟩
    obtain⟨o,ho,hbr⟩:=h.2 i hi
    have hd:dok N o.dst=true:=List.all_eq_true.1 hN o (by rw[← Array.getElem?_toList] at ho;exact List.mem_of_getElem? ho)
    unfold wpOp
    simp only[ho]
    rcases hbr with ⟨_,hS,s',⟨v,rfl,⟨hg,hop⟩ | ⟨hg,rfl⟩⟩,hrest⟩ | ⟨_,hg,post,hop,hrest⟩
    · rw[if_pos (wanted_of_gok r hN hg)]
      refine .inl (hop c.H c.n hS c a rfl rfl g (r.loc o.op) _ _ ?_)
      rintro v1 x c' ⟨rfl,hH,hn⟩ hrep hgood hkeep
      exact AnyC.sound hN hQ fuel _ _ c' _ (hk.trans hkeep) hgood ((r.keeps hkeep).put hd hrep) (by rw[hH,hn];exact hrest)
    · rw[if_neg (by rw[wanted_of_gok r hN hg];simp)]
      exact AnyC.sound hN hQ fuel _ _ c _ hk g (r.put hd (.v _)) hrest
    · rw[if_pos (wanted_of_gok r hN hg)]
      refine .inl (hop c a rfl rfl g (r.loc o.op) _ _ ?_)
      rintro v1 x c' hpost hrep hgood hkeep
      exact AnyC.sound hN hQ fuel _ _ c' _ (hk.trans hkeep) hgood ((r.keeps hkeep).put hd hrep) (hrest v1 c'.H c'.n hpost).2
end
section
variable {P:Program} {f:FuncId} {N:Nat} {k:List Item} {ρ:Env} {H:Heap} {n:Nat} {Q:AVal→Heap→Nat→Prop}
def atS (J:Env→Heap→Nat→Prop):AS→Prop:=fun s=>J s.1 s.2.1 s.2.2
theorem Runs.drawC (Stab:Heap→Nat→Prop) (hard:List Nat) (t:OrdT) (J:Env→Heap→Nat→Prop) {id:Nat} {ops:List Oper} (hm:P.follows .mixedOrders=true) (hN:ops.all (fun o=>dok N o.dst)=true) (hB:Ab.drawT ops.toArray hard t=true)
    (h:RunT P N ops.toArray Stab hard (atS J) t (ρ,H,n)) (hR:∀ ρ H n,J ρ H n→Runs P f N k ρ H n Q):Runs P f N (.code (.region id ops.toArray true)::k) ρ H n Q:=by
  intro c a hH hn g r b cs hf hk
  subst hH
  subst hn
  obtain⟨d1,d2⟩:=draw_keeps g
  simp only[Ab.drawT,Bool.and_eq_true,decide_eq_true_eq] at hB
  have hany:=AnyC.lex (P:=P) (N:=N) (Stab:=Stab) (hard:=hard) (ops:=ops.toArray) ops.toArray.size t (Array.replicate ops.toArray.size false) (ρ,c.H,c.n) hB.2 hB.1.1 hB.1.2 h
  have hw:(Code.region id ops.toArray true).wp P (fun e a' w'=>e = .normal∧∃ c' ρ',c'.w=w'∧Keeps c c'∧Good c'∧RelE N c' ρ' a'∧Runs P f N k ρ' c'.H c'.n Q) a c.w:=by
    refine wp_region_any hm ?_
    have:=AnyC.sound (P:=P) (N:=N) (Stab:=Stab) (hard:=hard) (ops:=ops.toArray) (c0:=c) (by simpa using hN) (Q:=fun e a' w'=>e = .normal∧∃ c' ρ',c'.w=w'∧Keeps c c'∧Good c'∧RelE N c' ρ' a'∧Runs P f N k ρ' c'.H c'.n Q)
      (R:=atS J) (fun a' c' ρ' hk' hg' hr' hR'=>⟨rfl,c',ρ',rfl,hk',hg',hr',hR _ _ _ hR'⟩) ops.toArray.size (Array.replicate ops.toArray.size false) ρ { c with w:={ c.w with drawn:=c.w.drawn+1 } } a d1 d2 (r.keeps d1) hany
    simpa using this
  obtain⟨e,a',w',⟨rfl,c',ρ',rfl,hk',hg',hr',hR⟩,harr⟩:=hw b k cs
  obtain⟨x,v,c'',fr,q,hr,hg,hke,hst,rest⟩:=hR c' a' rfl rfl hg' hr' b cs hf hk
  exact⟨x,v,c'',fr,q,hr,hg,hk'.trans hke,Steps.trans harr hst,rest⟩
theorem Runs.seqC (Stab:Heap→Nat→Prop) (hard:List Nat) (t:OrdT) (J:Env→Heap→Nat→Prop) {id:Nat} {ops:List Oper} {y:Code} (hm:P.follows .mixedOrders=true) (hN:ops.all (fun o=>dok N o.dst)=true) (hB:Ab.drawT ops.toArray hard t=true)
    (h:RunT P N ops.toArray Stab hard (atS J) t (ρ,H,n)) (hR:∀ ρ H n,J ρ H n→Runs P f N (.code y::k) ρ H n Q):Runs P f N (.code (.seq (.region id ops.toArray true) y)::k) ρ H n Q:=
  Runs.seq (Runs.drawC Stab hard t J hm hN hB h hR)
end
section
variable {P:Program} {N:Nat} {ops:Array Oper} {Stab:Heap→Nat→Prop} {hard:List Nat} {R:AS→Prop} {ρ:Env} {H:Heap} {n:Nat} {i:Nat} {l:OrdT} {Ty:Types}
theorem RunT.fin {J:Env→Heap→Nat→Prop} (h:J ρ H n):RunT P N ops Stab hard (atS J) .fin (ρ,H,n):=h
theorem RunT.free {o:Oper} (v:AVal) (ho:ops.toList[i]?=some o) (hg:gok ops o ρ=some true) (hS:Stab H n) (hop:∀ H n,Stab H n→OpSem P N o (loc o.op ρ) H n (isV v H n)) (h:RunT P N ops Stab hard R l (ρ.put o.dst v,H,n)):RunT P N ops Stab hard R (.free i l) (ρ,H,n):=
  ⟨o,by rw[← Array.getElem?_toList];exact ho,hS,_,⟨v,rfl,.inl ⟨hg,hop⟩⟩,h⟩
theorem RunT.heavy {o:Oper} (post:AVal→Heap→Nat→Prop) (ho:ops.toList[i]?=some o) (hg:gok ops o ρ=some true) (hop:OpSem P N o (loc o.op ρ) H n post) (h:∀ v H' n',post v H' n'→(lateC ops hard i=false→Stab H' n')∧RunT P N ops Stab hard R l (ρ.put o.dst v,H',n')):HardT P N ops Stab hard (RunT P N ops Stab hard R l) i (ρ,H,n):=
  ⟨o,by rw[← Array.getElem?_toList];exact ho,hg,post,hop,h⟩
theorem RunT.step (hT:TypesOk P Ty) {o:Oper} {v:AVal} {H':Heap} {n':Nat} (ho:ops.toList[i]?=some o) (hg:gok ops o ρ=some true) (hs:stepF Ty o.dst o.op ρ H n=some (v,H',n')) (hS:lateC ops hard i=false→Stab H' n') (h:RunT P N ops Stab hard R l (ρ.put o.dst v,H',n')):HardT P N ops Stab hard (RunT P N ops Stab hard R l) i (ρ,H,n):=
  RunT.heavy (isV v H' n') ho hg (stepF_ok hT (by rw[stepF_loc];exact hs)) (by rintro _ _ _ ⟨rfl,rfl,rfl⟩;exact⟨hS,h⟩)
theorem RunT.same (hT:TypesOk P Ty) {o:Oper} {v:AVal} (ho:ops.toList[i]?=some o) (hg:gok ops o ρ=some true) (hs:stepF Ty o.dst o.op ρ H n=some (v,H,n)) (hS:lateC ops hard i=false→Stab H n) (h:RunT P N ops Stab hard R l (ρ.put o.dst v,H,n)):HardT P N ops Stab hard (RunT P N ops Stab hard R l) i (ρ,H,n):=
  RunT.step hT ho hg hs hS h
theorem loc_argsC {d:Operand} {args:Array Operand} {ats:Array TypeId}:args.toList.map (loc (.call ⟨.value d,args,ats⟩) ρ).ev=args.toList.map ρ.ev∧(loc (.call ⟨.value d,args,ats⟩) ρ).ev d=ρ.ev d:=
  ⟨List.map_congr_left fun x hx=>loc_ev (by simp[Op.operands,Call.operands];exact .inr (by simpa using hx)),loc_ev (by simp[Op.operands,Call.operands])⟩
theorem RunT.callW {K:List OwnE} {ids:List Id} {d:Option Tmp} {g:Operand} {args:Array Operand} {ats:Array TypeId} {ty:TypeId} {pos:String} {af:Array Edge} {gu:Option (Nat × Bool)} {R':AVal→Prop} {f':FuncId} {as1 args':List AVal} {sh:Sh}
    (ho:ops.toList[i]?=some ⟨d,.call ⟨.value g,args,ats⟩,ty,pos,af,gu⟩) (hgu:gok ops ⟨d,.call ⟨.value g,args,ats⟩,ty,pos,af,gu⟩ ρ=some true) (h:OwnS P f' args' sh R') (hent:Ent P f') (ha:ArgsOk H n as1 args') (hs:Sep H n K ids) (hg:ρ.ev g = .fn (.func f') [] []) (has:args.toList.map ρ.ev=as1)
    (hk:∀ v H1 n1 r,Sep H1 n1 ((sh,v,r)::K) ids→R' r→n≤n1→(∀ i ∈ ids,H1 i=H i)→(lateC ops hard i=false→Stab H1 n1)∧RunT P N ops Stab hard R l (ρ.put d v,H1,n1)) :
    HardT P N ops Stab hard (RunT P N ops Stab hard R l) i (ρ,H,n):=
  RunT.heavy _ ho hgu (OpSem.callW (by rw[loc_argsC.2];exact hg) hent (by rw[loc_argsC.1,has];exact ha) h hs) fun v H' n' ⟨r,h1,h2,h3,h4⟩=>hk v H' n' r h1 h2 h3 h4
theorem RunT.append (hT:TypesOk P Ty) {d:Nat} {t:TypeId} {j:TI} {s x:Operand} {ty:TypeId} {pos:String} {af:Array Edge} {gu:Option (Nat × Bool)} {v xv:AVal} {l':List Sh} {es:List (List AVal)} {ids:List Id} (K1 K2:List OwnE) (add adds:List (List AVal))
    (ho:ops.toList[i]?=some ⟨some d,.call ⟨.builtin .append,#[s,x],#[t,t]⟩,ty,pos,af,gu⟩) (hgu:gok ops ⟨some d,.call ⟨.builtin .append,#[s,x],#[t,t]⟩,ty,pos,af,gu⟩ ρ=some true) (hsv:ρ.ev s=v) (hxv:ρ.ev x=xv) (h:Sep H n ((.s l',v,.list true es)::(K1++K2)) ids) (hk:kd Ty t = .slice j) (hj:j.size=l'.length) (hz:j.zero.length=j.size∧j.bytes≤131072)
    (hx:srcOf H xv=some add) (ho1:add.all (fun e=>e.all Ab.one1)=true) (hadd:∀ S,Row H (K1.map (·.1)) (K1.map (·.2.1)) (K1.map (·.2.2)) S→rowsP (Row H l') add adds S) (hne:adds ≠ []) (hlen:es.length+adds.length≤1073741824)
    (hc:∀ v' H' n',Sep H' n' ((.s l',v',.list true (es++adds))::K2) ids→(∀ i ∈ ids,H' i=H i)→n≤n'→(lateC ops hard i=false→Stab H' n')∧RunT P N ops Stab hard R l (ρ.put (some d) v',H',n')):HardT P N ops Stab hard (RunT P N ops Stab hard R l) i (ρ,H,n):=by
  obtain⟨v',H',n',h1,h2,h3,h4⟩:=Sep.append (d:=d) h hk hj hz hx ho1 hadd hne hlen
  obtain⟨q1,q2⟩:=hc v' H' n' h2 h3 h4
  refine RunT.step hT ho hgu ?_ q1 q2
  show (if t=t then appendF Ty (some d) t (ρ.ev s) (ρ.ev x) H n else none)=_
  rw[if_pos rfl,hsv,hxv,h1]
theorem OpSem.stillD {d:Option Tmp} {g:Operand} {args:Array Operand} {ats:Array TypeId} {ty:TypeId} {pos:String} {af:Array Edge} {gu:Option (Nat × Bool)} {v:AVal} {f':FuncId} {as1:List AVal} (h:StillC P f' as1 H n (fun r=>r=v)) (hent:Ent P f') (hg:ρ.ev g = .fn (.func f') [] []) (has:args.toList.map ρ.ev=as1) :
    OpSem P N ⟨d,.call ⟨.value g,args,ats⟩,ty,pos,af,gu⟩ (loc (.call ⟨.value g,args,ats⟩) ρ) H n (isV v H n):=
  OpSem.call (by rw[loc_argsC.2];exact hg) hent (by rw[loc_argsC.1,has,List.nil_append,List.append_nil];exact h)
theorem OpSem.appendD (hT:TypesOk P Ty) {d:Option Tmp} {ty:TypeId} {pos:String} {af:Array Edge} {gu:Option (Nat × Bool)} {t:TypeId} {s x:Operand} {j:TI} {fr t':Bool} {l m:List Int} (hk:kd Ty t = .slice j) (hz:j.size=1∧j.zero.length=1∧j.bytes≤131072) (hs:ρ.ev s = .clip fr (l.map intV)) (hx:ρ.ev x = .list t' (m.map intC))
    (hne:m ≠ []) (hm:l.length+m.length≤1073741824) :
    OpSem P N ⟨d,.call ⟨.builtin .append,#[s,x],#[t,t]⟩,ty,pos,af,gu⟩ (loc (.call ⟨.builtin .append,#[s,x],#[t,t]⟩) ρ) H n (isV (.list true ((l++m).map intC)) H n):=by
  have e1:(loc (.call ⟨.builtin .append,#[s,x],#[t,t]⟩) ρ).ev s=ρ.ev s:=loc_ev (by simp[Op.operands,Call.operands])
  have e2:(loc (.call ⟨.builtin .append,#[s,x],#[t,t]⟩) ρ).ev x=ρ.ev x:=loc_ev (by simp[Op.operands,Call.operands])
  exact OpSem.appendLI hT hk hz (by rw[e1];exact hs) (by rw[e2];exact hx) hne hm
end
end Go.Ab
/- Library functions on slices of numbers: Index, Clone, Clip. -/
namespace Go.Ab.Vg
set_option linter.unusedSimpArgs false
set_option linter.unusedVariables false
abbrev indexZ_pre (l:List Int) (_:Int):Prop:=l.length≤1048576
def indexZ (l:List Int) (s:Int):Int:=if s ∈ l then (l.idxOf s:Int) else -1
theorem indexZ_no {l:List Int} {s:Int} (h:∀ j<l.length,at' l (j:Int) ≠ s):indexZ l s = -1:=by
  rw[indexZ,if_neg]
  intro hm
  obtain⟨j,hj,he⟩:=List.getElem_of_mem hm
  exact h j hj (by rw[at_lt hj];exact he)
theorem indexZ_yes {l:List Int} {s:Int} {k:Nat} (hk:k<l.length) (h:∀ j<k,at' l (j:Int) ≠ s) (he:at' l (k:Int)=s):indexZ l s=k:=by
  rw[at_lt hk] at he
  have hm:s ∈ l:=he ▸ List.getElem_mem hk
  rw[indexZ,if_pos hm]
  have h1:l.idxOf s<l.length:=List.idxOf_lt_length_iff.2 hm
  have h2:l[l.idxOf s]=s:=List.getElem_idxOf h1
  have h3:¬ l.idxOf s<k:=fun hlt=>h _ hlt (by rw[at_lt h1];exact h2)
  have h4:¬ k<l.idxOf s:=fun hlt=>by
    have:=List.not_of_lt_findIdx (p:=(· == s)) (xs:=l) hlt
    simp[he] at this
  omega
theorem indexZ_lt (l:List Int) (s:Int) : -1≤indexZ l s∧indexZ l s<l.length∧(0≤indexZ l s↔s ∈ l):=by
  rw[indexZ]
  split
  · rename_i h
    have h1:l.idxOf s<l.length:=List.idxOf_lt_length_iff.2 h
    exact⟨by omega,by omega,fun _=>h,fun _=>by omega⟩
  · rename_i h
    exact⟨by omega,by omega,fun h2=>by omega,fun h2=>absurd h2 h⟩
def indexZ_wp (s:List Int) (v_:Int) (Z:Int→Prop):Prop:=
  ∀ len2:Int,len2=(s.length:Int)→loopW (σ:=Int) (fun v6 K9=>∀ c10:Bool,c10=decide (v6<len2)→((c10=true→(0≤v6∧v6<s.length)∧∀ x13:Int,x13=at' s v6→∀ c15:Bool,c15=decide (v_=x13)→((c15=true→Z v6)∧(c15=false→(I64 (v6+1))∧∀ v18:Int,v18=v6+1→K9 (v18))))∧(c10=false→Z (-1)))) (0)
theorem indexZ_vc (l:List Int) (s:Int) (h:indexZ_pre l s):indexZ_wp l s (fun y=>y=indexZ l s):=by
  unfold indexZ_wp
  rintro _ rfl
  refine loopW.up1 l.length (fun k=>∀ j<k,at' l (j:Int) ≠ s) (by simp) ?_
  rintro k K hk hI IH
  simp only[forall_eq,decide_eq_true_eq,decide_eq_false_iff_not,I64]
  refine⟨fun h1=>⟨by omega,fun h2=>(indexZ_yes (by omega) hI h2.symm).symm,fun h2=>⟨by omega,IH (by omega) fun j hj=>?_⟩⟩,fun h1=>?_⟩
  · rcases Nat.lt_or_ge j k with h3 | h3
    · exact hI j h3
    · rw[show j=k by omega];exact fun h=>h2 h.symm
  · rw[indexZ_no fun j hj=>hI j (by omega)]
abbrev cloneZ (l:List Int):List Int:=l
abbrev cloneZ_pre (l:List Int):Prop:=l.length≤1048576
def cloneZ_wp (s:List Int) (Z:(List Int)→Prop):Prop:=
  ∀ c2:Bool,(c2=true→s=[])→((c2=true→Z [])∧(c2=false→(([]:List Int).length+s.length≤1073741824)∧∀ l7:List Int,l7=([]:List Int)++s→Z l7))
theorem cloneZ_vc (l:List Int) (h:cloneZ_pre l):cloneZ_wp l (fun y=>y=cloneZ l):=by
  unfold cloneZ_wp
  intro c hc
  refine⟨fun h1=>(hc h1).symm,fun _=>⟨by simp;omega,?_⟩⟩
  rintro _ rfl
  simp
end Go.Ab.Vg
/- Walks by program for YtlmihcmpigdojaaGreatDoorAbKi. -/
namespace Go.Ab.Vg
open Go.Proofs
set_option maxRecDepth 100000
set_option linter.unusedSimpArgs false
set_option linter.unusedVariables false
attribute [local simp] intC
theorem e111:Ent Tryz.prog 111:=Ent.of Tryz.func111 (by kernel_rfl) rfl
theorem indexZ_walk (s:List Int) (v_:Int) (Z:Int→Prop) (h:indexZ_wp s v_ Z):PureC Tryz.prog 111 [.list false (s.map intC),int v_] (fun r=>∃ y:Int,Z y∧r=int y):=by
  unfold indexZ_wp at h
  refine PureC.of Tryz.func111 rfl Tryz.ntmps111 (by simp) fun Q hQ=>?_
  refine Runs.cut (fun ρ H n=>(ρ 0 = .list false (s.map intC)∧ρ 1=int v_)) (by simp) ?_
  rintro ρ H n1 hh
  refine zE fun k' hk'=>?_
  simp[hh]
  apply hk'
  refine Runs.seq ?_
  refine zE fun k' hk'=>?_
  obtain⟨len2,elen2,h⟩:=atm h
  have f3:=fun H=>len_list (H:=H) (fr:=false) (f:=intC) kd_24 elen2
  simp[hh,f3,-lenF]
  apply hk'
  refine Runs.block ?_
  refine Runs.loopW h (fun (sJ:Int) ρ H n=>match sJ with | v6=>(ρ 0 = .list false (s.map intC)∧ρ 1=int v_∧ρ 7=int len2∧ρ 8=int v6)) (by simp[hh]) ?_
  clear hh
  rintro v6 ρ H n7 K h hh IH8
  refine zE fun k' hk'=>?_
  obtain⟨c10,ec10,h⟩:=atm h
  have f11:=ib_lss (k:=.i64) ec10
  simp[hh,f11,-intBin]
  apply hk'
  refine Runs.seq ?_
  refine Runs.ite (b:=c10) (by simp[hh]) (fun dc10=>?_) (fun dc10=>?_)
  · replace h:=h.1 dc10
    refine Runs.skip ?_
    refine Runs.seq ?_
    refine Runs.block ?_
    refine zE fun k' hk'=>?_
    simp[hh,dc10]
    apply hk'
    refine zE fun k' hk'=>?_
    obtain⟨hb12,h⟩:=h
    obtain⟨x13,ex13,h⟩:=atm h
    have f14:=fun H=>ix_list (H:=H) (fr:=false) (f:=intC) (k:=.i64) kd_24 (fun _=>rfl) hb12 ex13
    obtain⟨c15,ec15,h⟩:=atm h
    have f16:=ib_eql (k:=.i64) ec15
    simp[hh,f14,f16,dc10,-indexAddrF,-intBin]
    apply hk'
    refine Runs.ite (b:=c15) (by simp[hh,dc10]) (fun dc15=>?_) (fun dc15=>?_)
    · replace h:=h.1 dc15
      refine zE fun k' hk'=>?_
      simp[hh,dc10,dc15]
      apply hk'
      exact Runs.ret1 (v:=int v6) Tryz.func111 Tryz.results111 (by simp[hh,dc10,dc15]) (hQ _ _ _ _ (.of (.v _)) ⟨v6,h,rfl⟩)
    replace h:=h.2 dc15
    refine Runs.skip ?_
    refine Runs.inBlock ?_
    refine zF fun k' hk'=>?_
    obtain⟨hb17,h⟩:=h
    obtain⟨v18,ev18,h⟩:=atm h
    have f19:=ib_add hb17 ev18
    simp[hh,f19,dc10,dc15,-intBin]
    apply hk'
    refine IH8 (v18) _ _ _ h (by simp[hh,dc10,dc15])
  replace h:=h.2 dc10
  refine Runs.exit rfl ?_
  refine zE fun k' hk'=>?_
  simp[hh,dc10]
  apply hk'
  exact Runs.ret1 (v:=int (-1)) Tryz.func111 Tryz.results111 (by simp[hh,dc10]) (hQ _ _ _ _ (.of (.v _)) ⟨(-1),h,rfl⟩)
theorem indexZ_ok (s:List Int) (v_:Int) (hp:indexZ_pre s v_):PureC Tryz.prog 111 [.list false (s.map intC),int v_] (fun r=>r=int (indexZ s v_)):=(indexZ_walk s v_ _ (indexZ_vc s v_ hp)).mono (by rintro _ ⟨_,rfl,rfl⟩;rfl)
theorem e99:Ent Tryz.prog 99:=Ent.of Tryz.func99 (by kernel_rfl) rfl
theorem clipZ_ok (t:Bool) (l:List Int) (H:Heap) (n:Nat):StillC Tryz.prog 99 [.list t (l.map intC)] H n (fun r=>r = .clip t (l.map intV)):=by
  refine CallsA.of Tryz.func99 rfl Tryz.ntmps99 (by simp) fun Q hQ=>?_
  refine Runs.cut (fun ρ H1 n1=>ρ 0 = .list t (l.map intC)∧H1=H∧n1=n) (by simp) ?_
  rintro ρ H n1 ⟨h0,rfl,rfl⟩
  refine zE fun k' hk'=>?_
  simp[h0]
  apply hk'
  refine zE fun k' hk'=>?_
  have f1:=fun H=>len_list (H:=H) (fr:=t) (f:=intC) (l:=l) (v:=(l.length:Int)) kd_24 rfl
  simp[h0,f1]
  refine RunK.clipS (fr:=t) (vs:=l.map intV) (k1:=.i64) (k2:=.i64) Ty_ok (by decide) (by decide) kd_24 (by rw[intV_map];simp[h0]) (by simp) (by simp) ?_
  simp
  apply hk'
  exact Runs.ret1 (v:=.clip t (l.map intV)) Tryz.func99 Tryz.results99 (by simp) (hQ _ _ _ ⟨rfl,rfl,rfl⟩)
theorem e55:Ent Tryz.prog 55:=Ent.of Tryz.func55 (by kernel_rfl) rfl
theorem cloneZ_walk (s:List Int) (Z:(List Int)→Prop) (h:cloneZ_wp s Z):OwnS Tryz.prog 55 [.list false (s.map intC)] (.s [.c]) (fun r=>∃ y:List Int,Z y∧r = .list true (y.map intC)):=by
  unfold cloneZ_wp at h
  have sp:Sep noHeap 0 [] []:=Sep.nil (by simp)
  refine OwnS.of Tryz.func55 rfl Tryz.ntmps55 (by simp) fun Q hQ=>?_
  refine Runs.cut (fun ρ H n=>ρ 0 = .list false (s.map intC)∧Sep H n [] []) (by refine⟨by simp ,sp⟩) ?_
  rintro ρ H n1 ⟨hh,sp⟩
  refine zE fun k' hk'=>?_
  simp[hh]
  apply hk'
  refine Runs.seq ?_
  refine zE fun k' hk'=>?_
  simp[hh]
  refine RunK.isNil (fr:=false) (els:=s.map intC) Ty_ok (by decide) (by decide) kd_24 (by simp[hh]) (by simp[hh]) ?_
  rintro c2 hc3
  replace h:=h c2 (fun hq=>by simpa using hc3 hq)
  simp[hh]
  apply hk'
  refine Runs.ite (b:=c2) (by simp[hh]) (fun dc2=>?_) (fun dc2=>?_)
  · replace h:=h.1 dc2
    refine zE fun k' hk'=>?_
    simp[hh,dc2]
    apply hk'
    exact Runs.ret1 (v:=.v (.slice none 0 0)) Tryz.func55 Tryz.results55 (by simp[hh,dc2]) (hQ _ _ _ _ (Sep.sub (ids':=[]) (Sep.addNil sp) (by simp)) ⟨[],h,rfl⟩)
  replace h:=h.2 dc2
  refine Runs.skip ?_
  refine zE fun k' hk'=>?_
  obtain⟨hb6,h⟩:=h
  obtain⟨l7,el7,h⟩:=atm h
  simp[hh,dc2,-appendF]
  refine bind_append0 (s.map intC) (Sep.addEmpty (l:=[.c]) sp) (by simp) kd_24 (by simp) (by simp) (by simp[srcOf]) (by simp[-one1,o1x]) (by simpa using hb6) ?_
  rintro v8 H9 n10 sp hfr11 hle12
  replace sp:Sep H9 n10 [oI v8 l7] []:=by refine Sep.ap el7 ?_;exact sp
  simp[hh,dc2]
  apply hk'
  refine Runs.cut (fun ρ H n=>∃ (v14:AVal),ρ 2=v14∧Sep H n [oI v14 l7] []) (by refine⟨v8,by simp[hh,dc2],sp⟩) ?_
  clear hh
  rintro ρ H n15 ⟨v14,hh,sp⟩
  exact Runs.ret1 (v:=v14) Tryz.func55 Tryz.results55 (by simp[hh]) (hQ _ _ _ _ (Sep.sub (ids':=[]) sp (by simp)) ⟨l7,h,rfl⟩)
theorem cloneZ_ok (s:List Int) (hp:cloneZ_pre s):OwnS Tryz.prog 55 [.list false (s.map intC)] (.s [.c]) (fun r=>r = .list true ((cloneZ s).map intC)):=(cloneZ_walk s _ (cloneZ_vc s hp)).mono (by rintro _ ⟨_,rfl,rfl⟩;rfl)
end Go.Ab.Vg
/- The abstract machine, part Sh: function values handed over: what they capture is seen by the callee as cells that are never written again. -/
namespace Go.Ab
theorem Imm.bnd {n:Nat} {a:AVal} (h:Imm a):Bnd n a:=by
  induction h with
  | v x=>exact .v x
  | agg cs _ ih=>exact .agg cs ih
  | tup cs _ ih=>exact .tup cs ih
  | list fr els _ ih=>exact .list fr els ih
  | iface t a _ ih=>exact .iface t a ih
section
variable {H:Heap} {n:Nat}
end
section
variable {P:Program} {f:FuncId} {N:Nat} {k:List Item} {Q:AVal→Heap→Nat→Prop} {Ty:Types} {l:List Oper} {ρ:Env} {H:Heap} {n:Nat}
theorem RunK.same1 (hT:TypesOk P Ty) {ops:Array Oper} {o:Oper} {v:AVal} (hl:(o::l).all (fun o=>dok N o.dst)=true) (hg:o.guard=none) (hs:stepF Ty o.dst o.op ρ H n=some (v,H,n)) (h:RunK P f N k Q ops l (ρ.put o.dst v) H n):RunK P f N k Q ops (o::l) ρ H n:=by
  simp only[List.all_cons,Bool.and_eq_true] at hl
  refine RunO.op hg hl.1 ((stepF_ok hT hs).mono ?_)
  rintro _ _ _ ⟨rfl,rfl,rfl⟩
  exact h
theorem RunK.makeS (hT:TypesOk P Ty) {ops:List Oper} {d len:Nat} {t:TypeId} {j:TI} {ps:Array (Nat × Operand)} {ty:TypeId} {pos:String} {af:Array Edge} {l':List Sh} {K:List OwnE} {ids:List Id} {cs:List AVal} (es:List (List AVal)) (h:Sep H n K ids)
    (hN:ops.all (fun o=>dok N o.dst)=true) (hl:(⟨some d,.buildSlice t len ps,ty,pos,af,none⟩::l:List Oper).all (fun o=>dok N o.dst)=true) (hf:∀ t ∈ l',t = .c) (hk:kd Ty t = .slice j) (hj:j.size=l'.length) (h0:len ≠ 0∧len * j.size≤16777216∧j.size ≠ 0∧j.zero.length=j.size)
    (hcs:fillA (fun k=>some (k * j.size,j.size)) ((List.replicate len (j.zero.map AVal.v)).flatten) (ps.toList.map fun p=>(p.1,ρ.ev p.2))=some cs) (hes:chunks j.size len cs=es) (hel:es.length=len) (ho:∀ e ∈ es,e.length=l'.length∧∀ a ∈ e,flat a=true)
    (hc:∀ id H' n',Sep H' n' ((.s l',.arr id len 0 len,.list true es)::K) ids→(∀ i ∈ ids,H' i=H i)→n≤n'→evalK P f N k Q Ty ops.toArray l (ρ.put (some d) (.arr id len 0 len)) H' n'):RunK P f N k Q ops.toArray (⟨some d,.buildSlice t len ps,ty,pos,af,none⟩::l) ρ H n:=by
  subst hes
  have e:ownF Ty (some d) (.buildSlice t len ps) ρ H n=some (.arr (n,d) len 0 len,H.set (n,d) ⟨j.size,chunks j.size len cs⟩,n+1):=by
    simp only[ownF,hk]
    rw[if_pos h0,hcs]
    rfl
  refine RunK.op hT hN hl rfl (ownF_ok (o:=⟨some d,.buildSlice t len ps,ty,pos,af,none⟩) hT e).1 ?_
  rintro _ _ _ ⟨rfl,rfl,rfl⟩
  have h1:=Sep.addNew (d:=d) (l:=l') (els:=chunks j.size len cs) (es:=chunks j.size len cs) h (rowsP.flats ho hf)
  rw[hel,← hj] at h1
  exact hc (n,d) _ _ h1 (fun i hi=>Heap.get_set_ne _ _ (by rintro rfl;have:=h.1 _ hi;simp at this)) (Nat.le_succ n)
end
end Go.Ab
/- Own numbers that become lists, told beside what else is owned; cells that are told otherwise. -/
namespace Go.Ab.Vg
set_option linter.unusedSimpArgs false
set_option linter.unusedVariables false
open Go.Proofs
section
variable {P:Program} {f:FuncId} {N:Nat} {k:List Item} {ρ:Env} {H:Heap} {n:Nat} {Q:AVal→Heap→Nat→Prop}
theorem Runs.subX {X:Id} {sz:Nat} {rows rows':List (List AVal)} (hX:H X=some ⟨sz,rows⟩) (hl:rows.length=rows'.length) (hr:∀ (i:Nat) (e e':List AVal),rows[i]?=some e→rows'[i]?=some e'→SubL e e') (h:Runs P f N k ρ (H.set X ⟨sz,rows'⟩) n Q):Runs P f N k ρ H n Q:=by
  intro c a hH hn g r b cs hf hk
  subst hH hn
  have hdom:∀ id o',(c.H.set X ⟨sz,rows'⟩) id=some o'→∃ o,c.H id=some o∧o.size=o'.size∧o.els.length=o'.els.length:=by
    intro id o' ho
    rw[Heap.get_set] at ho
    split at ho
    · rename_i he;subst he;cases ho;exact⟨_,hX,rfl,hl⟩
    · exact⟨o',ho,rfl,rfl⟩
  let c2:Ctx:={ c with H:=c.H.set X ⟨sz,rows'⟩ }
  have k2:Keeps c c2:=by
    refine⟨Nat.le_refl _,rfl,Nat.le_refl _,rfl,rfl,rfl,fun k hk hm=>⟨rfl,?_⟩,fun id o' ho _=>?_⟩
    · rintro⟨id,o,ho,hb⟩
      obtain⟨o2,h2,_⟩:=hdom id o ho
      exact hm ⟨id,o2,h2,hb⟩
    · obtain⟨o,h1,h2,h3⟩:=hdom id o' ho
      exact⟨o,h1,h2,Nat.le_of_eq h3,fun _=>⟨rfl,fun cl el fz h=>⟨cl,el,fz,h,Nat.le_refl _⟩⟩⟩
  have g2:Good c2:=by
    refine⟨fun id o ho=>?_,fun id id' o o' ho ho' hb=>?_,g.Bsize,fun id o ho=>?_⟩
    · obtain⟨o2,h2,_⟩:=hdom id o ho
      exact g.stamp id o2 h2
    · obtain⟨o2,h2,_⟩:=hdom id o ho
      obtain⟨o3,h3,_⟩:=hdom id' o' ho'
      exact g.inj id id' o2 o3 h2 h3 hb
    · obtain⟨o2,h2,h3,h4⟩:=hdom id o ho
      obtain⟨p1,cl,el,p2,p3,p4⟩:=g.obj id o2 h2
      refine⟨p1,cl,el,p2,by rw[← h3,← h4];exact p3,fun i e he=>?_⟩
      have ho':(c.H.set X ⟨sz,rows'⟩) id=some o:=ho
      rw[Heap.get_set] at ho'
      split at ho'
      · rename_i hid
        subst hid
        cases ho'
        rw[hX] at h2
        cases h2
        obtain⟨e0,he0⟩:=get_of_len (l:=rows) (i:=i) (by rw[hl];exact (List.getElem?_eq_some_iff.1 he).1)
        obtain⟨s1,s2⟩:=(hr i e0 e he0 he).get
        refine⟨by rw[← s1];exact (p4 i e0 he0).1,fun j a ha=>?_⟩
        obtain⟨a0,ha0⟩:=get_of_len (l:=e0) (i:=j) (by rw[s1];exact (List.getElem?_eq_some_iff.1 ha).1)
        obtain⟨x,hx,hrp⟩:=(p4 i e0 he0).2 j a0 ha0
        exact⟨x,hx,s2 j a0 a ha0 ha c2 x (hrp.keeps k2)⟩
      · rw[ho'] at h2
        cases h2
        obtain⟨q1,q2⟩:=p4 i e he
        refine⟨q1,fun j a ha=>?_⟩
        obtain⟨x,hx,hrp⟩:=q2 j a ha
        exact⟨x,hx,hrp.keeps k2⟩
  obtain⟨x,v,c',fr,q,hr',hg,hke,rest⟩:=h c2 a rfl rfl g2 (r.keeps k2) b cs hf hk
  exact⟨x,v,c',fr,q,hr',hg,k2.trans hke,rest⟩
def AllI (K:List OwnE):Prop:=∀ e ∈ K,∃ v l,e=oI v l
theorem Row.allI {H:Heap}:∀ {K:List OwnE} {S:List Id},AllI K→Row H (K.map (·.1)) (K.map (·.2.1)) (K.map (·.2.2)) S→(∀ i ∈ S,∃ l:List Int,H i=some ⟨1,l.map intC⟩)∧∀ e ∈ K,e.2.1 = .v (.slice none 0 0)∨∃ i ∈ S,∃ g,e.2.1 = .arr i g 0 g
  | [],S,_,h=>by simp only[List.map_nil,Row] at h;subst h;exact⟨by simp,by simp⟩
  | e::K,S,hK,h=>by
    obtain⟨v,l,rfl⟩:=hK e (by simp)
    simp only[List.map_cons,Row] at h
    obtain⟨S1,S2,h1,h2,rfl,_⟩:=h
    obtain⟨q1,q2⟩:=Row.allI (fun e he=>hK e (by simp[he])) h2
    simp only[Tr] at h1
    rcases h1 with ⟨rfl,_,rfl⟩ | ⟨id,els,es,T,rfl,he,hm,hr,_,rfl⟩
    · refine⟨fun i hi=>q1 i (by simpa using hi),fun e he=>?_⟩
      rcases List.mem_cons.1 he with rfl | he
      · exact .inl rfl
      · rcases q2 e he with h | ⟨i,hi,g,h⟩
        · exact .inl h
        · exact .inr ⟨i,by simpa using hi,g,h⟩
    · injection he with _ he
      subst he
      have hel:els=l.map intC∧T=[]:=by
        have:∀ {xs bs:List (List AVal)} {S:List Id},rowsP (Row H [.c]) xs bs S→xs=bs∧S=[]:=by
          intro xs
          induction xs with
          | nil=>intro bs S hr;match bs,hr with
            | [],hr=>exact⟨rfl,hr⟩
            | _::_,hr=>exact hr.elim
          | cons a xs ih=>
            intro bs S hr
            match bs,hr with
            | b::bs,⟨T1,T2,q1,q2,q3,_⟩=>
              obtain⟨e1,e2,_⟩:=q1.fill (by simp)
              obtain⟨e3,e4⟩:=ih q2
              exact⟨by rw[e1,e3],by rw[q3,e2,e4];rfl⟩
            | [],hr=>exact hr.elim
        exact this hr
      obtain⟨rfl,rfl⟩:=hel
      refine⟨fun i hi=>?_,fun e he=>?_⟩
      · simp only[List.mem_append,List.mem_singleton] at hi
        rcases hi with rfl | hi
        · exact⟨l,hm⟩
        · exact q1 i hi
      · rcases List.mem_cons.1 he with rfl | he
        · exact .inr ⟨id,by simp,_,rfl⟩
        · rcases q2 e he with h | ⟨i,hi,g,h⟩
          · exact .inl h
          · exact .inr ⟨i,by simp[hi],g,h⟩
theorem Runs.fzT {v:AVal} {l:List Int} {K:List OwnE} {ids:List Id} (sp:Sep H n (oI v l::K) ids) (hK:AllI K)
    (h:∀ (H':Heap) (φ:AVal→AVal),Sep H' n K ids→(∀ i ∈ ids,H' i=(H i).map fun o=>⟨o.size,o.els.map fun e=>e.map φ⟩)→(∀ a,Imm a→φ a=a)→(∀ e ∈ K,φ e.2.1=e.2.1)→(∀ i ∈ ids,∀ g x y,φ (.ptr i g x y) = .ptr i g x y∧φ (.arr i g x y) = .arr i g x y) →
      (Imm (φ v)∧Sub (φ v) (.list true (l.map intC)))→Runs P f N k (fun t=>φ (ρ t)) H' n Q):Runs P f N k ρ H n Q:=by
  have hform:=Sep.formF sp (by simp)
  rcases hform with ⟨rfl,rfl⟩ | ⟨id,rfl,hm⟩
  · refine h H (fun a=>a) (Sep.dr sp) (fun i _=>?_) (fun _ _=>rfl) (fun _ _=>rfl) (fun _ _ _ _ _=>⟨rfl,rfl⟩) ⟨.v _,Sub.nil true⟩
    cases H i with
    | none=>rfl
    | some o=>simp
  · refine Runs.freeze1 id hm (by intro e he a ha;obtain⟨x,_,rfl⟩:=List.mem_map.1 he;simp only[intC,List.mem_singleton] at ha;subst ha;rfl) ?_
    have hφ:∀ a,Imm a→fz (fun i=>decide (i=id)) H a=a:=fun a ha=>Bnd.fz (n:=0) (fun _ _=>Nat.zero_le _) ha.bnd
    obtain⟨h0,S1,S2,hr1,hr2,hd,hS1,hS2⟩:=Sep.split (K1:=[oI (.arr id l.length 0 l.length) l]) (K2:=K) sp
    have hid:id ∈ S1:=by
      simp only[List.map_cons,List.map_nil,Row,Tr] at hr1
      obtain⟨T1,T2,q1,rfl,rfl,_⟩:=hr1
      rcases q1 with ⟨q,_⟩ | ⟨id',els,es,T,q,_,_,_,_,rfl⟩
      · cases q
      · injection q with q;subst q;simp
    obtain⟨_,hi⟩:=hS1 id hid
    obtain⟨hfl,hvs⟩:=Row.allI hK hr2
    have hfr:∀ i ∈ S2,fzH (fun i=>decide (i=id)) H i=H i:=fun i hi2=>by
      obtain⟨l',hl'⟩:=hfl i hi2
      rw[fzH_ne (show i ≠ id from fun e=>hd id hid (e ▸ hi2)),hl']
      simp only[Option.map_some,Option.some.injEq,Ob.mk.injEq,true_and]
      exact fz_flats fun e he a ha=>by obtain⟨x,_,rfl⟩:=List.mem_map.1 he;simp only[intC,List.mem_singleton] at ha;subst ha;rfl
    refine h _ _ ?_ (fun i hi2=>?_) hφ (fun e he=>?_) (fun i hi2 g x y=>?_) ?_
    · exact⟨h0,S2,Row.frame hr2 hfr,hS2⟩
    · exact fzH_ne (show i ≠ id from fun e=>hi (e ▸ hi2))
    · rcases hvs e he with h1 | ⟨i,hi2,g,h1⟩
      · rw[h1];exact fz_v _
      · rw[h1,fz_arr,if_neg]
        simp only[decide_eq_true_eq]
        exact fun e=>hd id hid (e ▸ hi2)
    · have hne:i ≠ id:=fun e=>hi (e ▸ hi2)
      rw[fz_ptr,fz_arr]
      simp[hne]
    · rw[fz_own hm (by simp)]
      refine⟨.list _ _ fun e he a ha=>?_,Sub.refl _⟩
      obtain⟨x,_,rfl⟩:=List.mem_map.1 he
      simp only[intC,List.mem_singleton] at ha
      subst ha
      exact .v _
theorem Runs.fzS {v:AVal} {l:List Int} {K:List OwnE} {ids:List Id} (sp:Sep H n (oI v l::K) ids) (hK:AllI K)
    (h:∀ (H':Heap) (φ:AVal→AVal),Sep H' n K ids→(∀ i ∈ ids,H' i=(H i).map fun o=>⟨o.size,o.els.map fun e=>e.map φ⟩)→(∀ a,Imm a→φ a=a)→(∀ e ∈ K,φ e.2.1=e.2.1)→(∀ i ∈ ids,∀ g x y,φ (.ptr i g x y) = .ptr i g x y∧φ (.arr i g x y) = .arr i g x y) →
      Sub (φ v) (.list true (l.map intC))→Runs P f N k (fun t=>φ (ρ t)) H' n Q):Runs P f N k ρ H n Q:=
  Runs.fzT sp hK fun H' φ h1 h2 h3 h4 h5 h6=>h H' φ h1 h2 h3 h4 h5 h6.2
theorem Runs.fzAll {ids:List Id}:∀ (es:List (AVal × List Int)) {ρ:Env} {H:Heap},Sep H n (es.map fun e=>oI e.1 e.2) ids →
    (∀ (H':Heap) (φ:AVal→AVal),Sep H' n [] ids→(∀ i ∈ ids,H' i=(H i).map fun o=>⟨o.size,o.els.map fun e=>e.map φ⟩)→(∀ a,Imm a→φ a=a)→(∀ e ∈ es,Sub (φ e.1) (.list true (e.2.map intC)))→(∀ i ∈ ids,∀ g x y,φ (.ptr i g x y) = .ptr i g x y∧φ (.arr i g x y) = .arr i g x y) →
      Runs P f N k (fun t=>φ (ρ t)) H' n Q)→Runs P f N k ρ H n Q
  | [],ρ,H,sp,h=>h H (fun a=>a) sp (fun i _=>by cases H i with
    | none=>rfl
    | some o=>simp) (fun _ _=>rfl) (by simp) (fun _ _ _ _ _=>⟨rfl,rfl⟩)
  | e::es,ρ,H,sp,h=>by
    replace sp:Sep H n (oI e.1 e.2::es.map fun e=>oI e.1 e.2) ids:=by rw[List.map_cons] at sp;exact sp
    refine Runs.fzT sp (fun x hx=>by obtain⟨y,_,rfl⟩:=List.mem_map.1 hx;exact⟨_,_,rfl⟩) fun H1 φ sp1 fr1 hφ hkv hptr hsub=>?_
    refine Runs.fzAll es sp1 fun H2 ψ sp2 fr2 hψ hes hptr2=>?_
    have:=h H2 (fun a=>ψ (φ a)) sp2 (fun i hi=>?_) (fun a ha=>by rw[hφ a ha,hψ a ha]) (fun x hx=>?_) (fun i hi g x y=>by rw[(hptr i hi g x y).1,(hptr i hi g x y).2];exact hptr2 i hi g x y)
    · exact this
    · rw[fr2 i hi,fr1 i hi]
      cases H i with
      | none=>rfl
      | some o=>simp[Function.comp_def]
    · rcases List.mem_cons.1 hx with rfl | hx
      · rw[hψ _ hsub.1];exact hsub.2
      · have h1:=hkv (oI x.1 x.2) (List.mem_map.2 ⟨x,hx,rfl⟩)
        simp only at h1
        rw[h1]
        exact hes x hx
end
end Go.Ab.Vg
/- The abstract machine, part St: rules, guards, systems. -/
namespace Go.Ab
structure Guard where
  zone:Int
  neg:Bool
  pattern:Big
  deriving Inhabited,DecidableEq
theorem imm_big (t:Bool) (b:Big):∀ a ∈ b.cells t,Imm a:=by
  intro a ha
  simp only[Big.cells,List.mem_cons,List.not_mem_nil,or_false] at ha
  rcases ha with rfl | rfl | rfl | rfl | rfl | rfl
  · exact .v _
  · exact imm_encN t b.nodes
  · exact imm_encI t b.sites
  · exact .v _
  · exact imm_encS t b.outer
  · exact imm_encW t b.inner
section
variable {H:Heap} {n:Nat}
end
end Go.Ab
/- The abstract machine, part Sc: copying into an array of the call's own (elements of one cell). -/
namespace Go.Ab
section
variable {P:Program} {N:Nat} {Ty:Types} {ρ:Env} {H:Heap} {n:Nat}
variable {d:Option Tmp} {ty:TypeId} {pos:String} {af:Array Edge} {gu:Option (Nat × Bool)}
theorem exec_copy {a:Act} {w w':World} {s x:Operand} {t t':TypeId} {u:Value} (h:(Builtin.copy_ #[t,t'] ty #[a.eval s,a.eval x]).run P w = .ok u w') :
    (execOp a.eval ⟨d,.call ⟨.builtin .copy,#[s,x],#[t,t']⟩,ty,pos,af,gu⟩).run P w = .ok (.value u) w':=by
  simp only[execOp,resolve,invoke,builtin,Sem.run_bind,Sem.run_pure,Result.andThen_ok,List.map_toArray,List.map_cons,List.map_nil,h]
def copied (es new:List (List AVal)) (off len:Nat):List (List AVal):=es.take off++new.take (min new.length len)++es.drop (off+min new.length len)
theorem copied_len {es new:List (List AVal)} {off len:Nat} (h:off+len≤es.length):(copied es new off len).length=es.length:=by simp[copied];omega
theorem OpSem.copy1 (hT:TypesOk P Ty) {t t':TypeId} {dst src:Operand} {j:TI} {id:Id} {g0 off len:Nat} {o:Ob} {els:List (List AVal)} (hk:kd Ty t = .slice j) (hj:j.size=1) (hd:ρ.ev dst = .arr id g0 off len) (hl:live H id g0=some o) (ho:o.size=1)
    (hs:srcOf H (ρ.ev src)=some els) (hes:els.all (·.length == 1)=true) (h1:els.all (fun e=>e.all one1)=true) :
    OpSem P N ⟨d,.call ⟨.builtin .copy,#[dst,src],#[t,t']⟩,ty,pos,af,gu⟩ ρ H n fun v1 H1 n1=>v1=int (min els.length len:Nat)∧H1=H.set id ⟨1,copied o.els els off len⟩∧n1=n:=by
  refine OpSem.of_value fun c a hH hn g r=>?_
  subst hH
  obtain⟨i,e,hi,hde,hje⟩:=kd_slice hk
  obtain⟨hu,_⟩:=hT t i hi
  rw[hde] at hu
  obtain⟨_,info,zv,hinfo,his,_,_,_⟩:=hT e j hje
  have hs1:(P.info? e).map (·.size)=some 1:=by rw[hinfo];simp[his,hj]
  have rs:=r.ev dst
  rw[hd] at rs
  obtain⟨l1,l2⟩:=live_some hl
  have rx:=srcOf_ok g (r.ev src) hs hes
  generalize hsv:a.eval dst=sv at rs
  generalize hxv:a.eval src=xv at rx
  cases rs with
  | arr _ _ _ _ _ hone hn0 hg hp=>
  obtain⟨p1,ad,cap,rfl,hab,hsp,hlc,hoff,hcl⟩:=hp o l1 l2
  obtain⟨ab,ao,asp⟩:=ad
  simp only at hab hsp hoff
  subst hab hsp
  obtain⟨hB,cl,el,hh,hsz,hel⟩:=g.obj id o l1
  rw[ho] at hsz hoff
  have hsame:min els.length len=0→c.H.set id ⟨1,copied o.els els off len⟩=c.H:=fun h0=>by
    funext q
    by_cases hq:q=id
    · subst hq
      rw[Heap.get_set_self,l1]
      have:copied o.els els off len=o.els:=by simp[copied,h0]
      rw[this,← ho]
    · exact Heap.get_set_ne _ _ hq
  by_cases hm:min els.length len=0
  · have hrun:(Builtin.copy_ #[t,t'] ty #[a.eval dst,a.eval src]).run P c.w = .ok (goInt 0) c.w:=by
      rw[hsv,hxv]
      rcases rx with ⟨rfl,rfl⟩ | ⟨a2,cap2,news,rfl,_⟩
      · exact run_copy_nil P c.w t t' ty e _ len cap hu (by rw[hs1];rfl)
      · exact run_copy_none c.w t t' ty e _ _ len cap els.length cap2 hu hs1 hm
    exact⟨_,_,c,exec_copy hrun,⟨by rw[hm];rfl,(hsame hm).symm,hn⟩,.v _,g,Keeps.refl c⟩
  · rcases rx with ⟨rfl,rfl⟩ | ⟨a2,cap2,news,rfl,hnl,hnc,hnr⟩
    · simp at hm
    have hao:ao=off:=by
      rcases hoff with h | h
      · omega
      · omega
    subst hao
    have hog:o.els.length=g0:=l2
    have hml:(news.take (min els.length len)).length=min els.length len:=by rw[List.length_take,hnl];omega
    have hone':∀ v ∈ news.take (min els.length len),v.oneCell'=true:=fun v hv=>allOne h1 hnl hnr v (List.mem_of_mem_take hv)
    have hfit:ao+(news.take (min els.length len)).length≤cl.size:=by rw[hml];omega
    have hrun:(Builtin.copy_ #[t,t'] ty #[a.eval dst,a.eval src]).run P c.w = .ok (goInt (news.take (min els.length len)).length) (c.w.setRow (c.β id) (cl.toList.take ao++news.take (min els.length len)++cl.toList.drop (ao+(news.take (min els.length len)).length)).toArray):=by
      rw[hsv,hxv]
      exact run_copy_row P c.w t t' ty e (c.β id) ao len cap a2 els.length cap2 cl el _ hu hs1 hh hml (fun j v hj=>hnc j v (by
        rw[List.getElem?_take] at hj
        split at hj
        · exact hj
        · cases hj)) hfit hone'
    have hov:(cl.toList.take ao++news.take (min els.length len)++cl.toList.drop (ao+(news.take (min els.length len)).length)).toArray=over cl ao (news.take (min els.length len)):=rfl
    rw[hov] at hrun
    have hup:=upd_same g l1 ⟨1,copied o.els els ao len⟩ (c.w.setRow (c.β id) (over cl ao (news.take (min els.length len)))) cl (over cl ao (news.take (min els.length len))) el el ⟨rfl,rfl,rfl⟩ (by simp[World.setRow]) hh (fun k hk=>setRow_other c.w _ k _ hk) (setRow_heap c.w _ cl _ el _ hh)
      (by rw[over_size hfit];exact Nat.le_refl _) ho (by rw[copied_len (by omega)];exact Nat.le_refl _) ⟨?_,?_⟩
    · exact⟨int (min els.length len:Nat),goInt (news.take (min els.length len)).length,{ c with H:=c.H.set id ⟨1,copied o.els els ao len⟩,w:=c.w.setRow (c.β id) (over cl ao (news.take (min els.length len))) },exec_copy hrun,⟨rfl,rfl,hn⟩,by rw[hml];exact .v _,hup.2,hup.1⟩
    · rw[over_size hfit,copied_len (by omega)];simpa using hsz
    · intro q e' he
      simp only[copied] at he
      have hcell:∀ (x:List AVal),o.els[q]?=some x→¬ (ao≤q∧q<ao+min els.length len)→x.length=1∧∀ (j:Nat) (y:AVal),x[j]?=some y→∃ z,(over cl ao (news.take (min els.length len)))[q * 1+j]?=some z∧Rep c y z:=fun x hx hnot=>by
        obtain⟨h2,h3⟩:=hel q x hx
        rw[ho] at h2 h3
        refine⟨h2,fun j y hy=>?_⟩
        have hj0:j=0:=by have:=(List.getElem?_eq_some_iff.1 hy).1;omega
        subst hj0
        have h4:=h3 0 y hy
        rwa [over_get hfit,hml,if_neg (by omega)]
      by_cases c1:q<ao
      · rw[List.append_assoc,List.getElem?_append_left (by simp;omega),List.getElem?_take,if_pos c1] at he
        exact hcell e' he (by omega)
      · by_cases c2:q<ao+min els.length len
        · rw[List.append_assoc,List.getElem?_append_right (by simp;omega),List.getElem?_append_left (by simp;omega),List.getElem?_take] at he
          have hmin:min ao o.els.length=ao:=by omega
          simp only[List.length_take,hmin] at he
          rw[if_pos (by omega)] at he
          obtain⟨h2,h3⟩:=hnr _ e' he
          refine⟨h2,fun j y hy=>?_⟩
          have hj0:j=0:=by have:=(List.getElem?_eq_some_iff.1 hy).1;omega
          subst hj0
          obtain⟨z,hz,hrep⟩:=h3 0 y hy
          refine⟨z,?_,hrep⟩
          show (over cl ao (news.take (min els.length len)))[q * 1+0]?=some z
          rw[over_get hfit,hml,if_pos (by omega),List.getElem?_take,if_pos (by omega)]
          rw[← hz];congr 1;omega
        · rw[List.getElem?_append_right (by simp;omega)] at he
          have hmin:min ao o.els.length=ao:=by omega
          have hmin2:min (min els.length len) els.length=min els.length len:=by omega
          simp only[List.length_append,List.length_take,hmin,hmin2,List.getElem?_drop] at he
          rw[show ao+min els.length len+(q - (ao+min els.length len))=q by omega] at he
          exact hcell e' he (by omega)
theorem OpSem.copy1' (hT:TypesOk P Ty) {t t':TypeId} {dst src:Operand} {j:TI} {id:Id} {g0 off len m:Nat} {o:Ob} {els es':List (List AVal)} (hk:kd Ty t = .slice j) (hj:j.size=1) (hd:ρ.ev dst = .arr id g0 off len) (hl:live H id g0=some o) (ho:o.size=1)
    (hs:srcOf H (ρ.ev src)=some els) (hes:els.all (·.length == 1)=true) (h1:els.all (fun e=>e.all one1)=true) (hm:min els.length len=m) (he:copied o.els els off len=es') :
    OpSem P N ⟨d,.call ⟨.builtin .copy,#[dst,src],#[t,t']⟩,ty,pos,af,gu⟩ ρ H n (isV (int m) (H.set id ⟨1,es'⟩) n):=by
  subst hm he
  exact OpSem.copy1 hT hk hj hd hl ho hs hes h1
end
end Go.Ab
/- slices.Repeat of one number. -/
namespace Go.Ab.Vg
set_option linter.unusedSimpArgs false
set_option linter.unusedVariables false
open Go.Proofs
theorem rep_vs (c:Ctx) (vs:List Value):Rep c (.tup (vs.map AVal.v)) (.tuple vs.toArray):=.tup _ _ (by simp) fun i a x ha hx=>by
  rw[List.getElem?_map] at ha
  rw[hx] at ha
  simp only[Option.map_some,Option.some.injEq] at ha
  exact ha ▸ .v x
theorem e145:Ent Tryz.prog 145:=Ent.of Tryz.func145 (by kernel_rfl) rfl
theorem e128:Ent Tryz.prog 128:=Ent.of Tryz.func128 (by kernel_rfl) rfl
theorem bitsMul_ok (x y:Nat) (hx:x<18446744073709551616) (hy:y<18446744073709551616):PureC Tryz.prog 145 [.v (.int .u64 x),.v (.int .u64 y)] (fun r=>r = .tup [.v (.int .u64 ((x * y / 18446744073709551616:Nat):Int)),.v (.int .u64 ((x * y % 18446744073709551616:Nat):Int))]):=by
  refine PureC.of_below fun c xs _ r=>?_
  obtain⟨a,b,rfl,ha,hb⟩:=r.two2
  rw[ha.v_inv,hb.v_inv]
  refine (Tryz.bits_Mul x y hx hy c.w).mono ?_
  rintro e w' ⟨he,rfl⟩
  exact⟨_,_,he,rfl,.tup _ (by simp),fun c'=>rep_vs c' [.int .u64 ((x * y / 18446744073709551616:Nat):Int),.int .u64 ((x * y % 18446744073709551616:Nat):Int)],Go.RowKit.Below.refl _ _⟩
theorem copied_rep {v:Int} {N m:Nat} (hm:m≤N):copied ((List.replicate m v++List.replicate (N - m) (0:Int)).map intC) ((List.replicate m v).map intC) m (N - m)=(List.replicate (m+min m (N - m)) v++List.replicate (N - (m+min m (N - m))) (0:Int)).map intC:=by
  simp only[copied,List.length_map,List.length_replicate,← List.map_take,← List.map_drop,← List.map_append]
  congr 1
  refine List.ext_getElem (by simp;omega) fun i h1 h2=>?_
  simp only[List.getElem_append,List.getElem_take,List.getElem_drop,List.getElem_replicate,List.length_append,List.length_take,List.length_replicate]
  repeat' split
  all_goals first | rfl | omega
theorem repeat_ok (v n:Int) (h:0≤n∧n≤1048576):OwnS Tryz.prog 128 [.list false ([v].map intC),int n] (.s [.c]) (fun r=>r = .list true ((List.replicate n.toNat v).map intC)):=by
  obtain⟨N,rfl⟩:∃ N:Nat,n=N:=⟨n.toNat,by omega⟩
  refine OwnS.of Tryz.func128 rfl Tryz.ntmps128 (by simp) fun Q hQ=>?_
  refine Runs.seqE Ty_ok (by decide) fun k' hk'=>?_
  simp
  apply hk'
  refine Runs.seq ?_
  refine Runs.seqE Ty_ok (by decide) fun k' hk'=>?_
  simp
  apply hk'
  refine Runs.ite rfl (fun hc1=>?_) (fun hc1=>?_)
  · simp at hc1;omega
  clear hc1 hk'
  refine Runs.skip ?_
  refine Runs.seqE Ty_ok (by decide) fun k' hk'=>?_
  simp
  have hw:IntKind.u64.wrap (N:Int)=N:=by simp[IntKind.wrap,IntKind.bits,IntKind.signed];omega
  have hw1:IntKind.u64.wrap 1=1:=by simp[IntKind.wrap,IntKind.bits,IntKind.signed]
  have hwi:IntKind.i64.wrap (N:Int)=N:=wrap64 (by omega) (by omega)
  refine RunK.callA Ty_ok (bitsMul_ok 1 N (by omega) (by omega)) e145 (.cons (.v _ _ _) (.cons (.v _ _ _) .nil)) (by decide) (by decide) rfl (by simp[hw,hw1]) ?_
  rintro _ rfl
  have hd:(N:Int) / 18446744073709551616=0:=by omega
  have hm:(N:Int) % 18446744073709551616=N:=by omega
  simp[hd,hm]
  apply hk'
  refine Runs.seq ?_
  refine Runs.seqE Ty_ok (by decide) fun k' hk'=>?_
  simp
  apply hk'
  refine Runs.ite rfl (fun hc1=>?_) (fun hc1=>?_)
  · simp at hc1;omega
  clear hc1 hk' hw1 hd hm
  refine Runs.skip ?_
  refine Runs.seqE Ty_ok (by decide) fun k' hk'=>?_
  simp[hwi,show (N:Int)≤1073741824 by omega]
  apply hk'
  refine Runs.cut (fun ρ H n=>ρ 0 = .list false [intC v]∧ρ 7 = .arr (0,30) N 0 N∧H (0,30)=some ⟨1,(List.replicate N (0:Int)).map intC⟩∧n=1) (by simp[intC]) ?_
  clear hk' hw hwi
  rintro ρ H _ ⟨h0,h7,hH,rfl⟩
  refine Runs.seqE Ty_ok (by decide) fun k' hk'=>?_
  simp[h0,h7]
  refine RunK.op Ty_ok (by decide) (by decide) rfl (OpSem.copy1 (id:=(0,30)) (g0:=N) (off:=0) (len:=N) (o:=⟨1,(List.replicate N (0:Int)).map intC⟩) (els:=[v].map intC) Ty_ok kd_24 rfl (by simp[h7]) (by simp[live,hH]) rfl (by simp[srcOf,h0]) (by simp[intC]) (by simp[intC])) ?_
  rintro _ H' n' ⟨rfl,rfl,rfl⟩
  simp
  apply hk'
  refine Runs.cut (fun ρ H n=>∃ m:Nat,ρ 7 = .arr (0,30) N 0 N∧ρ 8=int m∧m≤N∧(m=0→N=0)∧H (0,30)=some ⟨1,(List.replicate m v++List.replicate (N - m) (0:Int)).map intC⟩∧n=1) ⟨min 1 N,by simp[h7],by simp,by omega,by omega,?_,rfl⟩ ?_
  · have hc:copied (List.replicate N (intC 0)) [intC v] 0 N=(List.replicate (min 1 N) v++List.replicate (N - min 1 N) (0:Int)).map intC:=by
      rcases Nat.eq_zero_or_pos N with h1 | h1
      · subst h1;simp[copied]
      · rw[show min 1 N=1 by omega];simp[copied,show min 1 N=1 by omega]
    simp[hc]
  clear hk' h0 h7 hH
  rintro ρ H _ ⟨m,h7,h8,hm,hm0,hH,rfl⟩
  refine Runs.seq ?_
  refine Runs.block (Runs.loopM (fun q ρ H n=>∃ m:Nat,q=N - m∧ρ 7 = .arr (0,30) N 0 N∧ρ 8=int m∧m≤N∧(m=0→N=0)∧H (0,30)=some ⟨1,(List.replicate m v++List.replicate (N - m) (0:Int)).map intC⟩∧n=1) (N - m) ⟨m,rfl,h7,h8,hm,hm0,hH,rfl⟩ ?_)
  clear h7 h8 hm hm0 hH
  rintro q ρ H _ ⟨m,rfl,h7,h8,hm,hm0,hH,rfl⟩ IH
  refine Runs.seq ?_
  refine Runs.seqE Ty_ok (by decide) fun k' hk'=>?_
  have hlen:((List.replicate m v++List.replicate (N - m) (0:Int)).map intC).length=N:=by simp;omega
  generalize hels:(List.replicate m v++List.replicate (N - m) (0:Int)).map intC=els at hH hlen
  simp[h7,h8,live,hH,hlen]
  apply hk'
  refine Runs.ite rfl (fun hc1=>?_) (fun hc1=>?_)
  · have hc1:m<N:=by simpa using hc1
    refine Runs.skip ?_
    refine Runs.block ?_
    refine Runs.evalDE Ty_ok kindOp_ok draws (by decide) (by kernel_rfl) fun k' hk'=>?_
    simp[h7,h8,live,hH,hlen,hm]
    have hmm:((m:Int)+(min m (N - m):Nat))=((m+min m (N - m):Nat):Int):=by omega
    refine RunDK.op Ty_ok kindOp_ok (v:=int (min m (N - m):Nat)) (H':=H.set (0,30) ⟨1,(List.replicate (m+min m (N - m)) v++List.replicate (N - (m+min m (N - m))) (0:Int)).map intC⟩) (n':=1) rfl (by decide) (fun h=>by cases h) ?_ ?_
    · have e2:=copied_rep (v:=v) (N:=N) (m:=m) hm
      rw[hels] at e2
      exact OpSem.copy1' (id:=(0,30)) (g0:=N) (off:=m) (len:=N - m) (o:=⟨1,els⟩) (els:=(List.replicate m v).map intC) Ty_ok kd_24 rfl (by rw[loc_ev (by simp[Op.operands,Call.operands])];simp) (by simp[live,hH,hlen]) rfl
        (by rw[loc_ev (by simp[Op.operands,Call.operands])];simp[srcOf,live,hH,← hels,List.take_append,show m+(N - m)=N by omega]) (by simp[intC]) (by simp[intC]) (by simp) e2
    have hwr:IntKind.i64.wrap ((m:Int)+(min m (N - m):Nat))=((m+min m (N - m):Nat):Int):=by rw[hmm];exact wrap64 (by omega) (by omega)
    have hz1:0<min m (N - m):=by omega
    have hz2:m+min m (N - m)≤N:=by omega
    generalize hq:m+min m (N - m)=q at hwr hz2
    generalize min m (N - m)=z at hq hwr hz1
    simp[hwr]
    apply hk'
    refine Runs.inBlock ?_
    exact IH (N - q) _ _ _ (by omega) ⟨q,rfl,by simp[h7],by simp,hz2,by omega,by simp,rfl⟩
  · have hc1:¬ m<N:=by simpa using hc1
    refine Runs.exit rfl ?_
    refine Runs.seqE Ty_ok (by decide) fun k' hk'=>?_
    simp[h7]
    apply hk'
    have hmN:m=N:=by omega
    subst hmN
    simp at hels
    exact Runs.ret1 (v:=.arr (0,30) m 0 m) Tryz.func128 Tryz.results128 (by simp) (hQ _ _ _ _ (Sep.ofArr (els:=els) (by simp) hH hlen (by simp) (by simp) (by simp[← hels,intC]) (by simp)) (by simp[← hels]))
end Go.Ab.Vg
/- The coder of the canonical form: its methods, by hand. -/
namespace Go.Ab.Vg
set_option linter.unusedSimpArgs false
set_option linter.unusedVariables false
open Go.Proofs
def cdE (o:Option AVal) (b:Big) (es pl c:AVal):List AVal:=o.toList++(Big.cells false b++[es,pl,c])
def cdO (o:Option AVal):Nat:=o.toList.length
theorem cdE_get {o:Option AVal} {b:Big} {es pl c:AVal} (k:Nat):(cdE o b es pl c)[cdO o+k]?=(Big.cells false b++[es,pl,c])[k]?:=by rw[cdE,cdO,List.getElem?_append_right (Nat.le_add_right _ _),Nat.add_sub_cancel_left]
theorem cdE_take {o:Option AVal} {b:Big} {es pl c:AVal} (k:Nat):(cdE o b es pl c).take (cdO o+k)=o.toList++(Big.cells false b++[es,pl,c]).take k:=by rw[cdE,cdO,List.take_length_add_append]
theorem cdE_drop {o:Option AVal} {b:Big} {es pl c:AVal} (k:Nat):(cdE o b es pl c).drop (cdO o+k)=(Big.cells false b++[es,pl,c]).drop k:=by rw[cdE,cdO,List.drop_length_add_append]
theorem cdE_dropS {o:Option AVal} {b:Big} {es pl c:AVal} (k:Nat):(cdE o b es pl c).drop (cdO o+k+1)=(Big.cells false b++[es,pl,c]).drop (k+1):=cdE_drop (k+1)
theorem cdO_8 (o:Option AVal):(cdO o+8+1≤9+cdO o)=True:=by simp;omega
theorem cdO_7 (o:Option AVal):(cdO o+7+1≤9+cdO o)=True:=by simp;omega
theorem set_same {H:Heap} {X:Id} {sz idx:Nat} {els:List (List AVal)} {e:List AVal} (hX:H X=some ⟨sz,els⟩) (he:els[idx]?=some e):H.set X ⟨sz,els.set idx e⟩=H:=by
  funext i
  rw[Heap.get_set]
  split
  · rename_i h
    subst h
    obtain⟨hi,he⟩:=List.getElem?_eq_some_iff.1 he
    rw[hX,← he,List.set_getElem_self]
  · rfl
section
variable {H:Heap} {n:Nat} {X:Id} {g idx:Nat} {els:List (List AVal)} {o:Option AVal} {b:Big}
theorem place_c {es c:AVal} {t:Bool} {pl:List Int} (hX:H X=some ⟨9+cdO o,els⟩) (hg:els.length=g) (he:els[idx]?=some (cdE o b es (.list t (pl.map intC)) c)) {p:Int} (hp:p<pl.length) (h1:I64 (-1 - p)) (h2:0≤p→I64 (4+at' pl p)) :
    StillC Tryz.prog 129 [.ptr X g idx (cdO o),int p] H n (fun r=>r=int (placeC pl p)):=by
  refine CallsA.of Tryz.func129 rfl Tryz.ntmps129 (by simp) fun Q hQ=>?_
  subst hg
  obtain⟨hi,he⟩:=List.getElem?_eq_some_iff.1 he
  cases o
  all_goals
    refine Runs.seqE Ty_ok (by decide) fun k' hk'=>?_
    simp[cdO]
    apply hk'
    refine Runs.seq ?_
    refine Runs.seqE Ty_ok (by decide) fun k' hk'=>?_
    simp
    apply hk'
    refine Runs.ite rfl (fun hc1=>?_) (fun hc1=>?_)
    · have hp0:0≤p:=by simpa using hc1
      have hb:0≤p∧p<pl.length:=⟨hp0,hp⟩
      have hI:=h2 hp0
      refine Runs.seqE Ty_ok (by decide) fun k' hk'=>?_
      have f1:=fun H=>ix_list (H:=H) (fr:=t) (f:=intC) (k:=.i64) kd_24 (fun _=>rfl) hb rfl
      have f2:=ib_add hI rfl
      simp[hX,he,hi,cdE,cdO,Big.cells,f1,f2,intC,-indexAddrF,-intBin]
      apply hk'
      exact Runs.ret1 (v:=int (4+at' pl p)) Tryz.func129 Tryz.results129 (by simp) (hQ _ _ _ ⟨by rw[placeC,if_neg (by omega)],rfl,rfl⟩)
    · have hp0:p<0:=by simpa using hc1
      refine Runs.skip ?_
      refine Runs.seqE Ty_ok (by decide) fun k' hk'=>?_
      have f2:=ib_sub h1 rfl
      simp[f2,-intBin]
      apply hk'
      exact Runs.ret1 (v:=int (-1 - p)) Tryz.func129 Tryz.results129 (by simp) (hQ _ _ _ ⟨by rw[placeC,if_pos hp0],rfl,rfl⟩)
end
theorem RunDK.appendN {P:Program} {N:Nat} {f:FuncId} {k:List Item} {Q:AVal→Heap→Nat→Prop} {Ty:Types} {κ:Op→Nat} {ops:Array Oper} {L:List Oper} {ρ:Env} {H:Heap} {n dd:Nat} {ty:TypeId} {pos:String} {af:Array Edge} {t:TypeId} {s x:Operand} {j:TI} {fr t':Bool} {l m:List Int}
    (hT:TypesOk P Ty) (hκ:KOk κ) (h2:κ (.call ⟨.builtin .append,#[s,x],#[t,t]⟩)=2) (hk:kd Ty t = .slice j) (hz:j.size=1∧j.zero.length=1∧j.bytes≤131072) (hs:ρ.ev s = .clip fr (l.map intV)) (hx:ρ.ev x = .list t' (m.map intC)) (hne:m ≠ []) (hm:l.length+m.length≤1073741824)
    (h:evalD P f N k Q Ty κ ops L (ρ.put (some dd) (.arr (n,dd) (l.length+m.length) 0 (l.length+m.length))) (H.set (n,dd) ⟨1,(l++m).map intC⟩) (n+1)):RunDK P f N k Q κ ops (⟨some dd,.call ⟨.builtin .append,#[s,x],#[t,t]⟩,ty,pos,af,none⟩::L) ρ H n:=by
  refine RunDK.op hT hκ (v:=.arr (n,dd) (l.length+m.length) 0 (l.length+m.length)) (H':=H.set (n,dd) ⟨1,(l++m).map intC⟩) (n':=n+1) rfl (by simp only[h2];decide) (fun h=>by simp only[h2] at h;cases h) ?_ h
  have e1:(loc (.call ⟨.builtin .append,#[s,x],#[t,t]⟩) ρ).ev s=ρ.ev s:=loc_ev (by simp[Op.operands,Call.operands])
  have e2:(loc (.call ⟨.builtin .append,#[s,x],#[t,t]⟩) ρ).ev x=ρ.ev x:=loc_ev (by simp[Op.operands,Call.operands])
  have:=OpSem.appendC (P:=P) (N:=N) (ρ:=loc (.call ⟨.builtin .append,#[s,x],#[t,t]⟩) ρ) (H:=H) (n:=n) (dd:=dd) (ty:=ty) (pos:=pos) (af:=af) (gu:=none) hT hk (s:=s) (x:=x) (vs:=l.map intV) (els:=m.map intC) (e1.trans hs) (by rw[e2,hx];rfl) (by simp[hz.1,intV]) (by simp[hz.1,intC]) (by simpa using hne) ⟨by omega,hz.2.2⟩ (by simpa using hm)
  rw[intV_map,← List.map_append] at this
  show OpSem P N _ _ H n (fun v1 H1 n1=>v1 = .arr (n,dd) (l.length+m.length) 0 (l.length+m.length)∧H1=H.set (n,dd) ⟨1,(l++m).map intC⟩∧n1=n+1)
  simpa[hz.1] using this
theorem Sep.addI {H:Heap} {n:Nat} {K:List OwnE} {ids:List Id} {d:Nat} (l:List Int) (h:Sep H n K ids):Sep (H.set (n,d) ⟨1,l.map intC⟩) (n+1) (oI (.arr (n,d) l.length 0 l.length) l::K) ids:=by
  have:=Sep.addNew (l:=[.c]) (d:=d) (els:=l.map intC) (es:=l.map intC) h (rowsP.fresh (by intro e he;obtain⟨a,_,rfl⟩:=List.mem_map.1 he;simp[intC]) (by simp))
  simpa using this
section
variable {H:Heap} {n:Nat} {X:Id} {g idx:Nat} {els:List (List AVal)} {o:Option AVal} {b:Big}
def linkC (b:Big) (es:List Int) (l:Int):Int × List Int:=if l ≥ b.edges then (l - b.edges,es) else if l ∈ es then (16+((es.idxOf l:Nat):Int),es) else (16+((es.length:Nat):Int),es++[l])
theorem e129:Ent Tryz.prog 129:=Ent.of Tryz.func129 (by kernel_rfl) rfl
theorem link_c {pl c:AVal} {es:List Int} (hX:H X=some ⟨9+cdO o,els⟩) (hg:els.length=g) (he:els[idx]?=some (cdE o b (.list true (es.map intC)) pl c)) {l:Int} (hl:I64 (l - b.edges)) (hE:es.length≤1048576) :
    CallsA Tryz.prog 130 [.ptr X g idx (cdO o),int l] H n (fun r H1 n1=>r=int (linkC b es l).1∧H1=H.set X ⟨9+cdO o,els.set idx (cdE o b (.list true ((linkC b es l).2.map intC)) pl c)⟩∧n1=n):=by
  refine CallsA.of Tryz.func130 rfl Tryz.ntmps130 (by simp) fun Q hQ=>?_
  subst hg
  have hsame:=set_same hX he
  obtain⟨hi,he⟩:=List.getElem?_eq_some_iff.1 he
  cases o
  all_goals
    refine Runs.seqE Ty_ok (by decide) fun k' hk'=>?_
    simp[cdO]
    apply hk'
    refine Runs.seq ?_
    refine Runs.seqE Ty_ok (by decide) fun k' hk'=>?_
    simp[hX,he,hi,cdE,cdO,Big.cells]
    apply hk'
    refine Runs.ite rfl (fun hc1=>?_) (fun hc1=>?_)
    · have hp0:b.edges≤l:=by simpa using hc1
      refine Runs.seqE Ty_ok (by decide) fun k' hk'=>?_
      have f2:=ib_sub hl rfl
      simp[hX,he,hi,cdE,cdO,Big.cells,f2,-intBin]
      apply hk'
      exact Runs.ret1 (v:=int (l - b.edges)) Tryz.func130 Tryz.results130 (by simp) (hQ _ _ _ ⟨by rw[linkC,if_pos hp0],by rw[linkC,if_pos hp0];exact hsame.symm,rfl⟩)
    · have hp0:¬ b.edges≤l:=by simpa using hc1
      refine Runs.skip ?_
      refine Runs.seqE Ty_ok (by decide) fun k' hk'=>?_
      simp[hX,he,hi,cdE,cdO,Big.cells]
      refine RunK.callA Ty_ok (indexZ_ok es l hE) e111 (.cons (ArgOk.listF (fr:=true) (els:=es.map intC) (by simp[intC])) (.cons (.v _ _ _) .nil)) (by decide) (by decide) rfl (by simp) ?_
      rintro _ rfl
      simp
      apply hk'
      refine Runs.seq ?_
      refine Runs.seqE Ty_ok (by decide) fun k' hk'=>?_
      simp
      apply hk'
      have hidx:=indexZ_lt es l
      refine Runs.ite rfl (fun hc2=>?_) (fun hc2=>?_)
      · have hp1:indexZ es l<0:=by simpa using hc2
        have hm:l ∉ es:=fun h=>by have:=hidx.2.2.2 h;omega
        have hk:linkC b es l=(16+((es.length:Nat):Int),es++[l]):=by rw[linkC,if_neg hp0,if_neg hm]
        refine Runs.seqE Ty_ok (by decide) fun k' hk'=>?_
        have f1:=fun H=>len_list (H:=H) (fr:=true) (f:=intC) (l:=es) kd_24 rfl
        simp[hX,he,hi,cdE,cdO,Big.cells,f1,-lenF]
        apply hk'
        refine Runs.evalE Ty_ok (by decide) fun k' hk'=>?_
        simp[hX,he,hi,cdE,cdO,Big.cells]
        refine RunK.callT Ty_ok (clipZ_ok true es _ _) e99 (by decide) (by decide) rfl (by simp) ?_
        rintro _ rfl
        simp
        refine RunK.appendI (fr:=true) (t':=true) (l:=es) (m:=[l]) Ty_ok (by decide) (by decide) kd_24 ⟨rfl,rfl,by decide⟩ (by simp) (by simp[intC]) (by simp) (by simp;omega) ?_
        simp[hX,he,hi,cdE,cdO,Big.cells]
        apply hk'
        refine Runs.seqE Ty_ok (by decide) fun k' hk'=>?_
        have f3:=ib_add (show I64 (16+(es.length:Int)) by simp only[I64];omega) rfl
        simp[f3,-intBin]
        apply hk'
        refine Runs.ret1 (v:=int (16+((es.length:Nat):Int))) Tryz.func130 Tryz.results130 (by simp) (hQ _ _ _ ⟨by rw[hk],?_,rfl⟩)
        rw[hk]
        simp[cdE,cdO,Big.cells]
      · have hp1:¬ indexZ es l<0:=by simpa using hc2
        have hm:l ∈ es:=hidx.2.2.1 (by omega)
        have hk:linkC b es l=(16+((es.idxOf l:Nat):Int),es):=by rw[linkC,if_neg hp0,if_pos hm]
        have hz:indexZ es l=((es.idxOf l:Nat):Int):=by rw[indexZ,if_pos hm]
        refine Runs.skip ?_
        refine Runs.seqE Ty_ok (by decide) fun k' hk'=>?_
        have f3:=ib_add (show I64 (16+indexZ es l) by simp only[I64];omega) rfl
        simp[f3,-intBin]
        apply hk'
        exact Runs.ret1 (v:=int (16+indexZ es l)) Tryz.func130 Tryz.results130 (by simp) (hQ _ _ _ ⟨by rw[hk,hz],by rw[hk];exact hsame.symm,rfl⟩)
theorem e130:Ent Tryz.prog 130:=Ent.of Tryz.func130 (by kernel_rfl) rfl
theorem linksC_snoc (b:Big):∀ (l es:List Int) (a:Int),linksC b es (l++[a])=((linksC b es l).1++[(linkC b (linksC b es l).2 a).1],(linkC b (linksC b es l).2 a).2)
  | [],es,a=>by
    by_cases h1:a ≥ b.edges
    · simp[linksC,linkC,h1]
    · by_cases h2:a ∈ es<;>simp[linksC,linkC,h1,h2]
  | x::l,es,a=>by
    simp only[List.cons_append,linksC]
    split
    · rw[linksC_snoc b l];rfl
    · split
      · rw[linksC_snoc b l];rfl
      · rw[linksC_snoc b l];rfl
theorem linksC_len2 (b:Big):∀ (l es:List Int),(linksC b es l).2.length≤es.length+l.length
  | [],es=>by simp[linksC]
  | x::l,es=>by
    simp only[linksC]
    split
    · have:=linksC_len2 b l es;simp;omega
    · split
      · have:=linksC_len2 b l es;simp;omega
      · have:=linksC_len2 b l (es++[x]);simp at this ⊢;omega
set_option maxRecDepth 100000 in
theorem node_c {es pl code:List Int} {cv:AVal} {K:List OwnE} {ids:List Id} (hX:H X=some ⟨9+cdO o,els⟩) (hg:els.length=g) (he:els[idx]?=some (cdE o b (.list true (es.map intC)) (.list true (pl.map intC)) cv)) (hcv:Sub cv (.list true (code.map intC)))
    {k num:Int} (hk:0≤k∧k<b.nodes.length) (hkp:k<pl.length) (hpp:(at' b.nodes k).parent<pl.length) (hp1:I64 (-1 - (at' b.nodes k).parent)) (hp2:0≤(at' b.nodes k).parent→I64 (4+at' pl (at' b.nodes k).parent))
    (hlk:∀ l ∈ (at' b.nodes k).links,I64 (l - b.edges)) (hsz:es.length+(at' b.nodes k).links.length≤1048576) (hcz:code.length+(at' b.nodes k).links.length≤1048576) (hpz:pl.length≤1048576) (hxi:X ∉ ids) (sp:Sep H n K (X::ids)) :
    CallsA Tryz.prog 93 [.ptr X g idx (cdO o),int k,int num] H n (fun r H1 n1=>∃ vp vc,H1 X=some ⟨9+cdO o,els.set idx (cdE o b (.list true ((linksC b es (at' b.nodes k).links).2.map intC)) vp vc)⟩ ∧
      Sep H1 n1 (oI vp (pl.set k.toNat num)::oI vc (code++(at' b.nodes k).control::placeC pl (at' b.nodes k).parent::(linksC b es (at' b.nodes k).links).1)::K) (X::ids)∧(∀ i ∈ ids,H1 i=H i)∧n≤n1):=by
  refine CallsA.of Tryz.func93 rfl Tryz.ntmps93 (by simp) fun Q hQ=>?_
  subst hg
  have he0:=he
  obtain⟨hi,he⟩:=List.getElem?_eq_some_iff.1 he
  have h00:=sp.1
  have lX:X.1<n:=h00 X (by simp)
  have neX:∀ m d,n≤m→(X=(m,d))=False:=fun m d hm=>by simp only[eq_iff_iff,iff_false];rintro rfl;simp at lX;omega
  have neI:∀ i ∈ ids,i ≠ (n,6):=fun i hi h=>by have:=h00 i (by simp[hi]);rw[h] at this;simp at this
  have nX0:=neX n 6 (Nat.le_refl _)
  have nX1:=neX (n+1) 30 (by omega)
  have nX2:∀ d,(X=(n+1,d))=False:=fun d=>neX (n+1) d (by omega)
  generalize hx:at' b.nodes k=x at *
  refine Runs.seqE Ty_ok (by decide) fun k' hk'=>?_
  have f1:=fun H=>ix_list (H:=H) (fr:=false) (f:=GNode.cells false) (k:=.i64) kd_35 (fun _=>rfl) hk hx.symm
  simp[hX,he,hi,cdE_get,cdE_take,cdE_drop,Big.cells,encN,f1,GNode.cells,encI,-indexAddrF]
  apply hk'
  refine Runs.cut (fun ρ H1 n1=>ρ 0 = .ptr X els.length idx (cdO o)∧ρ 1=int k∧ρ 2=int num∧ρ 6 = .ptr (n,6) 1 0 0∧H1 (n,6)=some ⟨3,[GNode.cells false x]⟩∧H1 X=some ⟨9+cdO o,els⟩∧n1=n+1∧Sep H1 (n+1) K ((n,6)::X::ids)∧∀ i ∈ ids,H1 i=H i)
    ⟨by simp,by simp,by simp,by simp,by simp[GNode.cells,encI],by simp[nX0,hX],rfl,Sep.var sp,fun i hi=>by rw[Heap.get_set_ne _ _ (neI i hi)]⟩ ?_
  clear hk' f1
  rintro ρ H1 _ ⟨r0,r1,r2,r6,m6,mX,rfl,sp1,fr1⟩
  refine Runs.seqD Ty_ok kindOp_ok draws (by decide) (by kernel_rfl) fun k' hk'=>?_
  simp[r0,r6,mX,he,hi,cdE_get,cdE_take,cdE_drop,Big.cells]
  refine RunDK.callT Ty_ok kindOp_ok (CallsA.sub (.cons hcv .nil) (clipZ_ok true code _ _)) e99 (by decide) rfl (by simp) ?_
  simp[r0,r6,m6,GNode.cells]
  refine RunDK.callT Ty_ok kindOp_ok (place_c mX rfl he0 hpp hp1 hp2) e129 (by decide) rfl (by simp[r0]) ?_
  simp[List.range_succ]
  have nR:∀ i ∈ (n,6)::X::ids,i ≠ (n+1,30):=fun i hi h=>by have:=sp1.1 i hi;rw[h] at this;simp at this
  have sp2:=Sep.addI (d:=30) (code++[x.control,placeC pl x.parent]) sp1
  refine RunDK.appendN (fr:=true) (t':=true) (l:=code) (m:=[x.control,placeC pl x.parent]) Ty_ok kindOp_ok (by decide) kd_24 ⟨rfl,rfl,by decide⟩ (by simp) (by simp[intC]) (by simp) (by simp;omega) ?_
  simp[r0,mX,he,hi,cdE_get,cdE_take,cdE_drop,cdE_dropS,cdO_8,Big.cells,nX2]
  apply hk'
  have mX1:((H1.set (n+1,30) ⟨1,(code++[x.control,placeC pl x.parent]).map intC⟩).set X ⟨9+cdO o,els.set idx (cdE o b (.list true (es.map intC)) (.list true (pl.map intC)) (.arr (n+1,30) (code.length+2) 0 (code.length+2)))⟩) X=some ⟨9+cdO o,els.set idx (cdE o b (.list true (es.map intC)) (.list true (pl.map intC)) (.arr (n+1,30) (code.length+2) 0 (code.length+2)))⟩:=Heap.get_set_self _ _ _
  refine Runs.cut (fun ρ H2 n2=>∃ vc,ρ 0 = .ptr X els.length idx (cdO o)∧ρ 1=int k∧ρ 2=int num∧ρ 6 = .ptr (n,6) 1 0 0∧H2 (n,6)=some ⟨3,[GNode.cells false x]⟩∧H2 X=some ⟨9+cdO o,els.set idx (cdE o b (.list true (es.map intC)) (.list true (pl.map intC)) vc)⟩∧n≤n2∧Sep H2 n2 (oI vc (code++[x.control,placeC pl x.parent])::K) (X::ids)∧∀ i ∈ ids,H2 i=H i)
    ⟨.arr (n+1,30) (code.length+2) 0 (code.length+2),by simp[r0],by simp[r1],by simp[r2],by simp[r6],?_,by simp[cdE,Big.cells],by omega,?_,fun i hi=>?_⟩ ?_
  · rw[Heap.get_set_ne _ _ (fun h=>by simp[h] at nX0),Heap.get_set_ne _ _ (by simp)];exact m6
  · have:=Sep.sub (ids':=X::ids) (Sep.setVar (w:=X) (o:=⟨9+cdO o,els.set idx (cdE o b (.list true (es.map intC)) (.list true (pl.map intC)) (.arr (n+1,30) (code.length+2) 0 (code.length+2)))⟩) sp2 (by simp)) (by simp +contextual)
    simpa[cdE,Big.cells] using this
  · rw[Heap.get_set_ne _ _ (show i ≠ X from fun h=>hxi (h ▸ hi)),Heap.get_set_ne _ _ (nR i (by simp[hi]))];exact fr1 i hi
  clear hk' mX1 sp2 nR r0 r1 r2 r6 m6 mX sp1 fr1
  rintro ρ H2 n2 ⟨vc,r0,r1,r2,r6,m6,mX,hn2,sp2,fr2⟩
  refine Runs.seq ?_
  refine Runs.seqE Ty_ok (by decide) fun k' hk'=>?_
  have f1:=fun H=>len_list (H:=H) (fr:=false) (f:=intC) (l:=x.links) kd_24 rfl
  simp[r6,m6,GNode.cells,encI,f1,-lenF]
  apply hk'
  refine Runs.block (Runs.loopUp x.links.length (fun i ρ H3 n3=>∃ vc,ρ 0 = .ptr X els.length idx (cdO o)∧ρ 1=int k∧ρ 2=int num∧ρ 34 = .list false (x.links.map intC)∧ρ 35=int x.links.length∧ρ 36=int i ∧
    H3 X=some ⟨9+cdO o,els.set idx (cdE o b (.list true ((linksC b es (x.links.take i)).2.map intC)) (.list true (pl.map intC)) vc)⟩∧n≤n3∧Sep H3 n3 (oI vc (code++x.control::placeC pl x.parent::(linksC b es (x.links.take i)).1)::K) (X::ids)∧∀ i ∈ ids,H3 i=H i)
    ⟨vc,by simp[r0],by simp[r1],by simp[r2],by simp,by simp,by simp,by simpa[linksC] using mX,hn2,by simpa[linksC] using sp2,fr2⟩ ?_)
  clear hk' f1 r0 r1 r2 r6 m6 mX hn2 sp2 fr2
  rintro i ρ H3 n3 hi3 ⟨vc,r0,r1,r2,r34,r35,r36,mX,hn3,sp3,fr3⟩ IH
  refine Runs.seqE Ty_ok (by decide) fun k' hk'=>?_
  simp[r35,r36]
  apply hk'
  refine Runs.seq ?_
  refine Runs.ite rfl (fun hc1=>?_) (fun hc1=>?_)
  · have hc1:i<x.links.length:=by simpa using hc1
    refine Runs.skip ?_
    refine Runs.seq ?_
    refine Runs.block ?_
    refine Runs.seqE Ty_ok (by decide) fun k' hk'=>?_
    have f1:=fun H=>ix_list (H:=H) (fr:=false) (f:=intC) (l:=x.links) (k:=.i64) (i:=(i:Int)) kd_24 (fun _=>rfl) ⟨by omega,by omega⟩ rfl
    simp[r34,r36,f1,intC,-indexAddrF]
    apply hk'
    have hl8:at' x.links (i:Int) ∈ x.links:=by rw[at_lt hc1];exact List.getElem_mem hc1
    generalize ha:at' x.links (i:Int)=a at hl8
    have htk:x.links.take (i+1)=x.links.take i++[a]:=by rw[← List.take_append_getElem hc1,← ha,at_lt hc1]
    have hsn:=linksC_snoc b (x.links.take i) es a
    have hE1:=linksC_len2 b (x.links.take i) es
    have hE2:(linksC b es (x.links.take i)).1.length=(x.links.take i).length:=linksC_len _ _
    rw[← htk] at hsn
    generalize linksC b es (x.links.take i)=L at hsn hE1 hE2 mX sp3
    have hti:(x.links.take i).length=i:=by simp;omega
    rw[hti] at hE1 hE2
    refine Runs.drawC (fun H n=>∃ es':List Int,H X=some ⟨9+cdO o,els.set idx (cdE o b (.list true (es'.map intC)) (.list true (pl.map intC)) vc)⟩) [7,9,12] (.free 0 (.free 1 (.free 2 (.free 3 (.free 4 (.free 5 (.free 6 (.hard 7 (.free 8 (.hard 9 (.free 10 (.free 11 (.hard 12 .fin .stop))) .stop)) .stop))))))))
      (fun ρ H3 n3=>∃ vc,ρ 0 = .ptr X els.length idx (cdO o)∧ρ 1=int k∧ρ 2=int num∧ρ 34 = .list false (x.links.map intC)∧ρ 35=int x.links.length∧ρ 36=int i ∧
        H3 X=some ⟨9+cdO o,els.set idx (cdE o b (.list true ((linksC b es (x.links.take (i+1))).2.map intC)) (.list true (pl.map intC)) vc)⟩∧n≤n3∧Sep H3 n3 (oI vc (code++x.control::placeC pl x.parent::(linksC b es (x.links.take (i+1))).1)::K) (X::ids)∧∀ i ∈ ids,H3 i=H i) draws (by decide) (by kernel_rfl) ?_ ?_
    · have hgX:∀ es':List Int,(els.set idx (cdE o b (.list true (es'.map intC)) (.list true (pl.map intC)) vc))[idx]?=some (cdE o b (.list true (es'.map intC)) (.list true (pl.map intC)) vc):=fun es'=>by rw[List.getElem?_set_self hi]
      refine RunT.free (.ptr X els.length idx (cdO o)) rfl rfl ⟨_,mX⟩ (fun H n ⟨es',hS⟩=>stepF_ok Ty_ok (by rw[stepF_loc];simp[r0])) ?_
      refine RunT.free (.ptr X els.length idx (cdO o)) rfl rfl ⟨_,mX⟩ (fun H n ⟨es',hS⟩=>stepF_ok Ty_ok (by rw[stepF_loc];simp[r0])) ?_
      refine RunT.free (.ptr X els.length idx (cdO o)) rfl rfl ⟨_,mX⟩ (fun H n ⟨es',hS⟩=>stepF_ok Ty_ok (by rw[stepF_loc];simp[hS,hi])) ?_
      refine RunT.free (.ptr X els.length idx (cdO o+8)) rfl rfl ⟨_,mX⟩ (fun H n ⟨es',hS⟩=>stepF_ok Ty_ok (by rw[stepF_loc];simp[hS,hi])) ?_
      refine RunT.free vc rfl rfl ⟨_,mX⟩ (fun H n ⟨es',hS⟩=>stepF_ok Ty_ok (by rw[stepF_loc];simp[hS,hi,cdE_get,Big.cells])) ?_
      refine RunT.free (.ptr X els.length idx (cdO o)) rfl rfl ⟨_,mX⟩ (fun H n ⟨es',hS⟩=>stepF_ok Ty_ok (by rw[stepF_loc];simp[r0])) ?_
      refine RunT.free (int a) rfl rfl ⟨_,mX⟩ (fun H n ⟨es',hS⟩=>stepF_ok Ty_ok (by rw[stepF_loc];simp)) ?_
      refine⟨?_,trivial⟩
      refine RunT.heavy (fun r H1 n1=>r=int (linkC b L.2 a).1∧H1=H3.set X ⟨9+cdO o,(els.set idx (cdE o b (.list true (L.2.map intC)) (.list true (pl.map intC)) vc)).set idx (cdE o b (.list true ((linkC b L.2 a).2.map intC)) (.list true (pl.map intC)) vc)⟩∧n1=n3) rfl rfl
        (OpSem.call (first:=[]) (captured:=[]) (by rw[loc_argsC.2];rfl) e130 (by rw[loc_argsC.1];simp[r0];simpa using link_c (n:=n3) mX (by simp) (hgX _) (hlk a hl8) (by omega))) ?_
      rintro _ _ _ ⟨rfl,rfl,rfl⟩
      rw[List.set_set]
      have mX2:=Heap.get_set_self H3 X ⟨9+cdO o,els.set idx (cdE o b (.list true ((linkC b L.2 a).2.map intC)) (.list true (pl.map intC)) vc)⟩
      have sp4:=Sep.setVar (w:=X) (o:=⟨9+cdO o,els.set idx (cdE o b (.list true ((linkC b L.2 a).2.map intC)) (.list true (pl.map intC)) vc)⟩) sp3 (by simp)
      have fr4:∀ i ∈ ids,(H3.set X ⟨9+cdO o,els.set idx (cdE o b (.list true ((linkC b L.2 a).2.map intC)) (.list true (pl.map intC)) vc)⟩) i=H i:=fun i hi=>by rw[Heap.get_set_ne _ _ (show i ≠ X from fun h=>hxi (h ▸ hi))];exact fr3 i hi
      generalize H3.set X ⟨9+cdO o,els.set idx (cdE o b (.list true ((linkC b L.2 a).2.map intC)) (.list true (pl.map intC)) vc)⟩=H4 at mX2 sp4 fr4
      refine⟨fun _=>⟨_,mX2⟩,?_⟩
      refine RunT.free (.list true [[int (linkC b L.2 a).1]]) rfl rfl ⟨_,mX2⟩ (fun H n ⟨es',hS⟩=>stepF_ok Ty_ok (by rw[stepF_loc];simp[List.range_succ])) ?_
      refine⟨?_,trivial⟩
      refine RunT.append (v:=vc) (xv:=.list true [[int (linkC b L.2 a).1]]) Ty_ok [] K [[int (linkC b L.2 a).1]] [intC (linkC b L.2 a).1] rfl rfl (by simp) (by simp) sp4 kd_24 (by simp) (by simp) (by simp[srcOf]) (by simp) (rows_one (Fill.v _ Fill.nil)) (by simp) (by simp;omega) ?_
      rintro vn H5 n5 sp5 fr5 hn5
      have mX5:H5 X=some ⟨9+cdO o,els.set idx (cdE o b (.list true ((linkC b L.2 a).2.map intC)) (.list true (pl.map intC)) vc)⟩:=(fr5 X (by simp)).trans mX2
      refine⟨fun _=>⟨_,mX5⟩,?_⟩
      refine RunT.free (.ptr X els.length idx (cdO o)) rfl rfl ⟨_,mX5⟩ (fun H n ⟨es',hS⟩=>stepF_ok Ty_ok (by rw[stepF_loc];simp[hS,hi])) ?_
      refine RunT.free (.ptr X els.length idx (cdO o+8)) rfl rfl ⟨_,mX5⟩ (fun H n ⟨es',hS⟩=>stepF_ok Ty_ok (by rw[stepF_loc];simp[hS,hi])) ?_
      refine⟨?_,trivial⟩
      have ho:=Sep.oc sp5
      refine RunT.step (v:=.undef) (H':=H5.set X ⟨9+cdO o,els.set idx (cdE o b (.list true ((linkC b L.2 a).2.map intC)) (.list true (pl.map intC)) vn)⟩) (n':=n5) Ty_ok rfl rfl ?_ (fun hl=>absurd (hl.symm.trans (show lateC _ _ _=true by kernel_rfl)) (by decide)) ?_
      · simp[mX5,hi,cdE_get,cdE_take,cdE_drop,cdE_dropS,cdO_8,Big.cells,ho,-cellsA,-one1,cAx,o1x]
        simp[cdE,Big.cells]
      refine RunT.fin ⟨vn,by simp[r0],by simp[r1],by simp[r2],by simp[r34],by simp[r35],by simp[r36],by rw[hsn];exact Heap.get_set_self _ _ _,by omega,?_,fun i hi=>?_⟩
      · rw[hsn]
        have:=Sep.setVar (w:=X) (o:=⟨9+cdO o,els.set idx (cdE o b (.list true ((linkC b L.2 a).2.map intC)) (.list true (pl.map intC)) vn)⟩) sp5 (by simp)
        simpa[oI,oE] using this
      · rw[Heap.get_set_ne _ _ (show i ≠ X from fun h=>hxi (h ▸ hi)),fr5 i (by simp[hi])];exact fr4 i hi
    · rintro ρ H4 n4 ⟨vc,r0,r1,r2,r34,r35,r36,mX,hn3,sp3,fr3⟩
      refine Runs.inBlock ?_
      refine Runs.evalE Ty_ok (by decide) fun k' hk'=>?_
      have f2:=ib_add (show I64 ((i:Int)+1) by simp only[I64];omega) (show ((i+1:Nat):Int)=(i:Int)+1 by omega)
      simp[r36,f2,-intBin]
      apply hk'
      exact IH hc1 _ _ _ ⟨vc,by simp[r0],by simp[r1],by simp[r2],by simp[r34],by simp[r35],by simp,mX,hn3,sp3,fr3⟩
  · have hc2:¬ i<x.links.length:=by simpa using hc1
    have hc1:i=x.links.length:=by omega
    subst hc1
    refine Runs.exit rfl ?_
    rw[List.take_length] at mX sp3
    refine Runs.seqE Ty_ok (by decide) fun k' hk'=>?_
    generalize linksC b es x.links=L at mX sp3 hQ
    have hgX:∀ e,(els.set idx e)[idx]?=some e:=fun e=>by rw[List.getElem?_set_self hi]
    simp[r0,mX,hi,cdE_get,Big.cells]
    refine RunK.callW Ty_ok (cloneZ_ok pl hpz) e55 (.cons (ArgOk.listF (fr:=true) (els:=pl.map intC) (by simp[intC])) .nil) sp3 (by decide) (by decide) rfl (by simp) ?_
    rintro vp H4 n4 _ sp4 rfl hn4 fr4
    have mX4:=(fr4 X (by simp)).trans mX
    have ho:=Sep.oc sp4
    simp[r0,mX4,hi,cdE_get,cdE_take,cdE_drop,cdE_dropS,cdO_7,Big.cells,ho,-cellsA,-one1,cAx,o1x]
    apply hk'
    refine Runs.cut (fun ρ H5 n5=>ρ 0 = .ptr X els.length idx (cdO o)∧ρ 1=int k∧ρ 2=int num∧H5 X=some ⟨9+cdO o,els.set idx (cdE o b (.list true (L.2.map intC)) vp vc)⟩∧n≤n5∧Sep H5 n5 (oI vp pl::oI vc (code++x.control::placeC pl x.parent::L.1)::K) (X::ids)∧∀ i ∈ ids,H5 i=H i)
      ⟨by simp[r0],by simp[r1],by simp[r2],by simp[cdE,Big.cells],by omega,Sep.setVar sp4 (by simp),fun i hi=>by rw[Heap.get_set_ne _ _ (show i ≠ X from fun h=>hxi (h ▸ hi)),fr4 i (by simp[hi])];exact fr3 i hi⟩ ?_
    clear hk' mX4 ho sp4 fr4 r0 r1 r2 mX sp3 fr3 hn4 hn3 r34 r35 r36
    rintro ρ H5 n5 ⟨r0,r1,r2,mX,hn5,sp5,fr5⟩
    have hkb:0≤k∧k<pl.length:=⟨hk.1,hkp⟩
    obtain⟨id,rfl,mo,ln,ni⟩:=Sep.openF sp5 (by simp) hkb
    refine Runs.evalE Ty_ok (by decide) fun k' hk'=>?_
    have f1:=fun H (hm:H id=some ⟨1,pl.map intC⟩)=>ix_arr (H:=H) (k:=.i64) (off:=0) (len:=pl.length) (g:=pl.length) kd_24 hm (by simp) rfl hkb
    simp[r0,r1,r2,mX,hi,cdE_get,cdE_take,cdE_drop,cdE_dropS,cdO_7,Big.cells,f1 _ mo,-indexAddrF,-storeF]
    refine bind_store (q:=k.toNat) (news:=intC num) [] (oI vc (code++x.control::placeC pl x.parent::L.1)::K) sp5 (by simp) (by simp;omega) (by simp) (by simp[-one1,o1x]) (Fill.v _ Fill.nil) ?_
    rintro H6 sp6 fr6
    simp
    apply hk'
    refine Runs.fin Tryz.func93 (RetOk.zero Tryz.results93) (hQ _ _ _ ⟨_,vc,(fr6 X (by simp)).trans mX,?_,fun i hi=>(fr6 i (by simp[hi])).trans (fr5 i hi),hn5⟩)
    have:=sp6
    rw[← List.map_set] at this
    exact this
theorem e93:Ent Tryz.prog 93:=Ent.of Tryz.func93 (by kernel_rfl) rfl
set_option maxRecDepth 100000 in
theorem rest_c {es pl code:List Int} {cv:AVal} {K:List OwnE} {ids:List Id} (hX:H X=some ⟨9+cdO o,els⟩) (hg:els.length=g) (he:els[idx]?=some (cdE o b (.list true (es.map intC)) (.list true (pl.map intC)) cv))
    (hp:∀ p ∈ b.sites,p<pl.length∧I64 (-1 - p)∧(0≤p→I64 (4+at' pl p))) (hlk:∀ w ∈ b.inner,I64 (w.link - b.edges)) (hsz:es.length+b.inner.length≤1048576) (hcz:code.length+b.sites.length+b.inner.length≤1048576) (hxi:X ∉ ids) (sp:Sep H n (oI cv code::K) (X::ids)) :
    CallsA Tryz.prog 94 [.ptr X g idx (cdO o)] H n (fun r H1 n1=>∃ vc,H1 X=some ⟨9+cdO o,els.set idx (cdE o b (.list true ((linksC b es (b.inner.map fun w=>w.link)).2.map intC)) (.list true (pl.map intC)) vc)⟩ ∧
      Sep H1 n1 (oI vc (code++(b.sites.map (placeC pl)++(linksC b es (b.inner.map fun w=>w.link)).1))::K) (X::ids)∧(∀ i ∈ ids,H1 i=H i)∧n≤n1):=by
  refine CallsA.of Tryz.func94 rfl Tryz.ntmps94 (by simp) fun Q hQ=>?_
  subst hg
  have he0:=he
  obtain⟨hi,he⟩:=List.getElem?_eq_some_iff.1 he
  have hgX:∀ e,(els.set idx e)[idx]?=some e:=fun e=>by rw[List.getElem?_set_self hi]
  have neX0:∀ (H3:Heap) (n3:Nat),(∀ i ∈ X::ids,i.1<n3)→X ≠ (n3,5):=fun _ n3 h e=>by have:=h X (by simp);rw[e] at this;simp at this
  refine Runs.seq ?_
  refine Runs.seqE Ty_ok (by decide) fun k' hk'=>?_
  have f1:=fun H=>len_list (H:=H) (fr:=false) (f:=intC) (l:=b.sites) kd_24 rfl
  simp[hX,he,hi,cdE_get,Big.cells,encI,f1,-lenF]
  apply hk'
  refine Runs.block (Runs.loopUp b.sites.length (fun i ρ H3 n3=>∃ vc,ρ 0 = .ptr X els.length idx (cdO o)∧ρ 10 = .list false (b.sites.map intC)∧ρ 11=int b.sites.length∧ρ 12=int i ∧
    H3 X=some ⟨9+cdO o,els.set idx (cdE o b (.list true (es.map intC)) (.list true (pl.map intC)) vc)⟩∧n≤n3∧Sep H3 n3 (oI vc (code++(b.sites.take i).map (placeC pl))::K) (X::ids)∧∀ i ∈ ids,H3 i=H i)
    ⟨cv,by simp,by simp,by simp,by simp,by rw[← he,List.set_getElem_self];exact hX,Nat.le_refl _,by simpa using sp,fun _ _=>rfl⟩ ?_)
  clear hk' f1 he0 hX sp
  rintro i ρ H3 n3 hi3 ⟨vc,r0,r10,r11,r12,mX,hn3,sp3,fr3⟩ IH
  refine Runs.seqE Ty_ok (by decide) fun k' hk'=>?_
  simp[r11,r12]
  apply hk'
  refine Runs.seq ?_
  refine Runs.ite rfl (fun hc1=>?_) (fun hc1=>?_)
  · have hc1:i<b.sites.length:=by simpa using hc1
    refine Runs.skip ?_
    refine Runs.seq ?_
    refine Runs.block ?_
    refine Runs.seqE Ty_ok (by decide) fun k' hk'=>?_
    have f1:=fun H=>ix_list (H:=H) (fr:=false) (f:=intC) (l:=b.sites) (k:=.i64) (i:=(i:Int)) kd_24 (fun _=>rfl) ⟨by omega,by omega⟩ rfl
    simp[r10,r12,f1,intC,-indexAddrF]
    apply hk'
    have hl8:at' b.sites (i:Int) ∈ b.sites:=by rw[at_lt hc1];exact List.getElem_mem hc1
    generalize ha:at' b.sites (i:Int)=a at hl8
    have htk:b.sites.take (i+1)=b.sites.take i++[a]:=by rw[← List.take_append_getElem hc1,← ha,at_lt hc1]
    obtain⟨hp1,hp2,hp3⟩:=hp a hl8
    refine Runs.evalDE Ty_ok kindOp_ok draws (by decide) (by kernel_rfl) fun k' hk'=>?_
    simp[r0,mX,hi,cdE_get,Big.cells]
    refine RunDK.callT Ty_ok kindOp_ok (place_c (g:=els.length) mX (by simp) (hgX _) hp1 hp2 hp3) e129 (by decide) rfl (by simp[r0]) ?_
    simp[List.range_succ,-appendF]
    refine bindD_append [] K [[int (placeC pl a)]] [intC (placeC pl a)] sp3 kd_24 (by simp) (by simp) (by simp[srcOf]) (by simp) (rows_one (Fill.v _ Fill.nil)) (by simp) (by simp;omega) ?_
    rintro vn H4 n4 sp4 fr4 hn4
    have mX4:=(fr4 X (by simp)).trans mX
    have ho:=Sep.oc sp4
    simp[r0,mX4,hi,cdE_get,cdE_take,cdE_drop,cdE_dropS,cdO_8,Big.cells,ho,-cellsA,-one1,cAx,o1x]
    apply hk'
    refine Runs.inBlock ?_
    refine Runs.evalE Ty_ok (by decide) fun k' hk'=>?_
    have f2:=ib_add (show I64 ((i:Int)+1) by simp only[I64];omega) (show ((i+1:Nat):Int)=(i:Int)+1 by omega)
    simp[r12,f2,-intBin]
    apply hk'
    refine IH hc1 _ _ _ ⟨vn,by simp[r0],by simp[r10],by simp[r11],by simp,by simp[cdE,Big.cells],by omega,?_,fun i hi=>by rw[Heap.get_set_ne _ _ (show i ≠ X from fun h=>hxi (h ▸ hi)),fr4 i (by simp[hi])];exact fr3 i hi⟩
    rw[htk]
    have:=Sep.setVar (w:=X) (o:=⟨9+cdO o,els.set idx (cdE o b (.list true (es.map intC)) (.list true (pl.map intC)) vn)⟩) sp4 (by simp)
    simpa[oI,oE,cdE,Big.cells] using this
  · have hc2:¬ i<b.sites.length:=by simpa using hc1
    have hc1:i=b.sites.length:=by omega
    subst hc1
    refine Runs.exit rfl ?_
    rw[List.take_length] at sp3
    clear IH hi3 r10 r11 r12
    refine Runs.seqE Ty_ok (by decide) fun k' hk'=>?_
    have f1:=fun H=>len_list (H:=H) (fr:=false) (f:=Wire.cells) (l:=b.inner) kd_36 rfl
    simp[r0,mX,hi,cdE_get,Big.cells,encW,f1,-lenF]
    apply hk'
    refine Runs.block (Runs.loopUp b.inner.length (fun i ρ H3 n3=>∃ vc,ρ 0 = .ptr X els.length idx (cdO o)∧ρ 33 = .list false (b.inner.map Wire.cells)∧ρ 34=int b.inner.length∧ρ 35=int i ∧
      H3 X=some ⟨9+cdO o,els.set idx (cdE o b (.list true ((linksC b es ((b.inner.map fun w=>w.link).take i)).2.map intC)) (.list true (pl.map intC)) vc)⟩∧n≤n3∧Sep H3 n3 (oI vc (code++(b.sites.map (placeC pl)++(linksC b es ((b.inner.map fun w=>w.link).take i)).1))::K) (X::ids)∧∀ i ∈ ids,H3 i=H i)
      ⟨vc,by simp[r0],by simp,by simp,by simp,by simpa[linksC] using mX,hn3,by simpa[linksC] using sp3,fr3⟩ ?_)
    clear hk' f1 r0 mX hn3 sp3 fr3
    rintro i ρ H3 n3 hi3 ⟨vc,r0,r33,r34,r35,mX,hn3,sp3,fr3⟩ IH
    refine Runs.seqE Ty_ok (by decide) fun k' hk'=>?_
    simp[r34,r35]
    apply hk'
    refine Runs.seq ?_
    refine Runs.ite rfl (fun hc1=>?_) (fun hc1=>?_)
    · have hc1:i<b.inner.length:=by simpa using hc1
      refine Runs.skip ?_
      refine Runs.seq ?_
      refine Runs.block ?_
      refine Runs.seqE Ty_ok (by decide) fun k' hk'=>?_
      have f1:=fun H=>ix_list (H:=H) (fr:=false) (f:=Wire.cells) (l:=b.inner) (k:=.i64) (i:=(i:Int)) kd_36 (fun _=>rfl) ⟨by omega,by omega⟩ rfl
      simp[r33,r35,f1,Wire.cells,-indexAddrF]
      apply hk'
      have hl8:at' b.inner (i:Int) ∈ b.inner:=by rw[at_lt hc1];exact List.getElem_mem hc1
      have hlw:=hlk _ hl8
      generalize ha:at' b.inner (i:Int)=w at hl8 hlw
      have htk:(b.inner.map fun w=>w.link).take (i+1)=(b.inner.map fun w=>w.link).take i++[w.link]:=by
        have hcm:i<(b.inner.map fun w=>w.link).length:=by simpa using hc1
        rw[← List.take_append_getElem hcm,← ha,at_lt hc1];simp
      have hsn:=linksC_snoc b ((b.inner.map fun w=>w.link).take i) es w.link
      have hE1:=linksC_len2 b ((b.inner.map fun w=>w.link).take i) es
      have hE2:(linksC b es ((b.inner.map fun w=>w.link).take i)).1.length=((b.inner.map fun w=>w.link).take i).length:=linksC_len _ _
      rw[← htk] at hsn
      generalize linksC b es ((b.inner.map fun w=>w.link).take i)=L at hsn hE1 hE2 mX sp3
      have hti:((b.inner.map fun w=>w.link).take i).length=i:=by simp;omega
      rw[hti] at hE1 hE2
      have nX:=neX0 H3 n3 sp3.1
      have spv:=Sep.var (d:=5) (o:=⟨2,[[str w.name,int w.link]]⟩) sp3
      have mXv:(H3.set (n3,5) ⟨2,[[str w.name,int w.link]]⟩) X=some ⟨9+cdO o,els.set idx (cdE o b (.list true (L.2.map intC)) (.list true (pl.map intC)) vc)⟩:=by rw[Heap.get_set_ne _ _ nX];exact mX
      have mWv:(H3.set (n3,5) ⟨2,[[str w.name,int w.link]]⟩) (n3,5)=some ⟨2,[[str w.name,int w.link]]⟩:=Heap.get_set_self _ _ _
      have frv:∀ i ∈ ids,(H3.set (n3,5) ⟨2,[[str w.name,int w.link]]⟩) i=H i:=fun i hi=>by rw[Heap.get_set_ne _ _ (fun h=>by have:=sp3.1 i (by simp[hi]);rw[h] at this;simp at this)];exact fr3 i hi
      generalize H3.set (n3,5) ⟨2,[[str w.name,int w.link]]⟩=H3v at spv mXv mWv frv
      refine Runs.drawC (fun H n=>(∃ es':List Int,H X=some ⟨9+cdO o,els.set idx (cdE o b (.list true (es'.map intC)) (.list true (pl.map intC)) vc)⟩)∧H (n3,5)=some ⟨2,[[str w.name,int w.link]]⟩) [8,10,13] (.free 0 (.free 1 (.free 2 (.free 3 (.free 4 (.free 5 (.free 6 (.free 7 (.hard 8 (.free 9 (.hard 10 (.free 11 (.free 12 (.hard 13 .fin .stop))) .stop)) .stop)))))))))
        (fun ρ H3 n3=>∃ vc,ρ 0 = .ptr X els.length idx (cdO o)∧ρ 33 = .list false (b.inner.map Wire.cells)∧ρ 34=int b.inner.length∧ρ 35=int i ∧
          H3 X=some ⟨9+cdO o,els.set idx (cdE o b (.list true ((linksC b es ((b.inner.map fun w=>w.link).take (i+1))).2.map intC)) (.list true (pl.map intC)) vc)⟩∧n≤n3∧Sep H3 n3 (oI vc (code++(b.sites.map (placeC pl)++(linksC b es ((b.inner.map fun w=>w.link).take (i+1))).1))::K) (X::ids)∧∀ i ∈ ids,H3 i=H i) draws (by decide) (by kernel_rfl) ?_ ?_
      · refine RunT.free (.ptr X els.length idx (cdO o)) rfl rfl ⟨⟨_,mXv⟩,mWv⟩ (fun H n ⟨⟨es',hS⟩,hW⟩=>stepF_ok Ty_ok (by rw[stepF_loc];simp[r0])) ?_
        refine RunT.free (.ptr X els.length idx (cdO o)) rfl rfl ⟨⟨_,mXv⟩,mWv⟩ (fun H n ⟨⟨es',hS⟩,hW⟩=>stepF_ok Ty_ok (by rw[stepF_loc];simp[r0])) ?_
        refine RunT.free (.ptr X els.length idx (cdO o)) rfl rfl ⟨⟨_,mXv⟩,mWv⟩ (fun H n ⟨⟨es',hS⟩,hW⟩=>stepF_ok Ty_ok (by rw[stepF_loc];simp[hS,hi])) ?_
        refine RunT.free (.ptr X els.length idx (cdO o+8)) rfl rfl ⟨⟨_,mXv⟩,mWv⟩ (fun H n ⟨⟨es',hS⟩,hW⟩=>stepF_ok Ty_ok (by rw[stepF_loc];simp[hS,hi])) ?_
        refine RunT.free vc rfl rfl ⟨⟨_,mXv⟩,mWv⟩ (fun H n ⟨⟨es',hS⟩,hW⟩=>stepF_ok Ty_ok (by rw[stepF_loc];simp[hS,hi,cdE_get,Big.cells])) ?_
        refine RunT.free (.ptr X els.length idx (cdO o)) rfl rfl ⟨⟨_,mXv⟩,mWv⟩ (fun H n ⟨⟨es',hS⟩,hW⟩=>stepF_ok Ty_ok (by rw[stepF_loc];simp[r0])) ?_
        refine RunT.free (.ptr (n3,5) 1 0 1) rfl rfl ⟨⟨_,mXv⟩,mWv⟩ (fun H n ⟨⟨es',hS⟩,hW⟩=>stepF_ok Ty_ok (by rw[stepF_loc];simp[hW])) ?_
        refine RunT.free (int w.link) rfl rfl ⟨⟨_,mXv⟩,mWv⟩ (fun H n ⟨⟨es',hS⟩,hW⟩=>stepF_ok Ty_ok (by rw[stepF_loc];simp[hW])) ?_
        refine⟨?_,trivial⟩
        refine RunT.heavy (fun r H1 n1=>r=int (linkC b L.2 w.link).1∧H1=H3v.set X ⟨9+cdO o,(els.set idx (cdE o b (.list true (L.2.map intC)) (.list true (pl.map intC)) vc)).set idx (cdE o b (.list true ((linkC b L.2 w.link).2.map intC)) (.list true (pl.map intC)) vc)⟩∧n1=n3+1) rfl rfl
          (OpSem.call (first:=[]) (captured:=[]) (by rw[loc_argsC.2];rfl) e130 (by rw[loc_argsC.1];simp[r0];simpa using link_c (n:=n3+1) mXv (by simp) (hgX _) hlw (by omega))) ?_
        rintro _ _ _ ⟨rfl,rfl,rfl⟩
        rw[List.set_set]
        have mX2:=Heap.get_set_self H3v X ⟨9+cdO o,els.set idx (cdE o b (.list true ((linkC b L.2 w.link).2.map intC)) (.list true (pl.map intC)) vc)⟩
        have mW2:(H3v.set X ⟨9+cdO o,els.set idx (cdE o b (.list true ((linkC b L.2 w.link).2.map intC)) (.list true (pl.map intC)) vc)⟩) (n3,5)=some ⟨2,[[str w.name,int w.link]]⟩:=by rw[Heap.get_set_ne _ _ (fun h=>nX h.symm)];exact mWv
        have sp4:=Sep.setVar (w:=X) (o:=⟨9+cdO o,els.set idx (cdE o b (.list true ((linkC b L.2 w.link).2.map intC)) (.list true (pl.map intC)) vc)⟩) spv (by simp)
        have fr4:∀ i ∈ ids,(H3v.set X ⟨9+cdO o,els.set idx (cdE o b (.list true ((linkC b L.2 w.link).2.map intC)) (.list true (pl.map intC)) vc)⟩) i=H i:=fun i hi=>by rw[Heap.get_set_ne _ _ (show i ≠ X from fun h=>hxi (h ▸ hi))];exact frv i hi
        generalize H3v.set X ⟨9+cdO o,els.set idx (cdE o b (.list true ((linkC b L.2 w.link).2.map intC)) (.list true (pl.map intC)) vc)⟩=H4 at mX2 sp4 fr4 mW2
        refine⟨fun _=>⟨⟨_,mX2⟩,mW2⟩,?_⟩
        refine RunT.free (.list true [[int (linkC b L.2 w.link).1]]) rfl rfl ⟨⟨_,mX2⟩,mW2⟩ (fun H n ⟨⟨es',hS⟩,hW⟩=>stepF_ok Ty_ok (by rw[stepF_loc];simp[List.range_succ])) ?_
        refine⟨?_,trivial⟩
        refine RunT.append (v:=vc) (xv:=.list true [[int (linkC b L.2 w.link).1]]) Ty_ok [] K [[int (linkC b L.2 w.link).1]] [intC (linkC b L.2 w.link).1] rfl rfl (by simp) (by simp) sp4 kd_24 (by simp) (by simp) (by simp[srcOf]) (by simp) (rows_one (Fill.v _ Fill.nil)) (by simp) (by simp;omega) ?_
        rintro vn H5 n5 sp5 fr5 hn5
        have mX5:H5 X=some ⟨9+cdO o,els.set idx (cdE o b (.list true ((linkC b L.2 w.link).2.map intC)) (.list true (pl.map intC)) vc)⟩:=(fr5 X (by simp)).trans mX2
        have mW5:=(fr5 (n3,5) (by simp)).trans mW2
        refine⟨fun _=>⟨⟨_,mX5⟩,mW5⟩,?_⟩
        refine RunT.free (.ptr X els.length idx (cdO o)) rfl rfl ⟨⟨_,mX5⟩,mW5⟩ (fun H n ⟨⟨es',hS⟩,hW⟩=>stepF_ok Ty_ok (by rw[stepF_loc];simp[hS,hi])) ?_
        refine RunT.free (.ptr X els.length idx (cdO o+8)) rfl rfl ⟨⟨_,mX5⟩,mW5⟩ (fun H n ⟨⟨es',hS⟩,hW⟩=>stepF_ok Ty_ok (by rw[stepF_loc];simp[hS,hi])) ?_
        refine⟨?_,trivial⟩
        have ho:=Sep.oc sp5
        refine RunT.step (v:=.undef) (H':=H5.set X ⟨9+cdO o,els.set idx (cdE o b (.list true ((linkC b L.2 w.link).2.map intC)) (.list true (pl.map intC)) vn)⟩) (n':=n5) Ty_ok rfl rfl ?_ (fun hl=>absurd (hl.symm.trans (show lateC _ _ _=true by kernel_rfl)) (by decide)) ?_
        · simp[mX5,hi,cdE_get,cdE_take,cdE_drop,cdE_dropS,cdO_8,Big.cells,ho,-cellsA,-one1,cAx,o1x]
          simp[cdE,Big.cells]
        refine RunT.fin ⟨vn,by simp[r0],by simp[r33],by simp[r34],by simp[r35],by rw[hsn];exact Heap.get_set_self _ _ _,by omega,?_,fun i hi=>?_⟩
        · rw[hsn]
          have:=Sep.sub (ids':=X::ids) (Sep.setVar (w:=X) (o:=⟨9+cdO o,els.set idx (cdE o b (.list true ((linkC b L.2 w.link).2.map intC)) (.list true (pl.map intC)) vn)⟩) sp5 (by simp)) (by simp +contextual)
          simpa[oI,oE] using this
        · rw[Heap.get_set_ne _ _ (show i ≠ X from fun h=>hxi (h ▸ hi)),fr5 i (by simp[hi])];exact fr4 i hi
      · rintro ρ H4 n4 ⟨vc,r0,r33,r34,r35,mX,hn3,sp3,fr3⟩
        refine Runs.inBlock ?_
        refine Runs.evalE Ty_ok (by decide) fun k' hk'=>?_
        have f2:=ib_add (show I64 ((i:Int)+1) by simp only[I64];omega) (show ((i+1:Nat):Int)=(i:Int)+1 by omega)
        simp[r35,f2,-intBin]
        apply hk'
        exact IH hc1 _ _ _ ⟨vc,by simp[r0],by simp[r33],by simp[r34],by simp,mX,hn3,sp3,fr3⟩
    · have hc2:¬ i<b.inner.length:=by simpa using hc1
      have hc1:i=b.inner.length:=by omega
      subst hc1
      refine Runs.exit rfl ?_
      have htl:(b.inner.map fun w=>w.link).take b.inner.length=b.inner.map fun w=>w.link:=List.take_of_length_le (by simp)
      rw[htl] at sp3 mX
      exact Runs.fin Tryz.func94 (RetOk.zero Tryz.results94) (hQ _ _ _ ⟨vc,mX,sp3,fr3,hn3⟩)
end
end Go.Ab.Vg
/- The code of a bigraph: newCoder and codeOf, by hand. -/
namespace Go.Ab.Vg
set_option linter.unusedSimpArgs false
set_option linter.unusedVariables false
open Go.Proofs
section
variable {H:Heap} {n:Nat}
theorem e92:Ent Tryz.prog 92:=Ent.of Tryz.func92 (by kernel_rfl) rfl
theorem e94:Ent Tryz.prog 94:=Ent.of Tryz.func94 (by kernel_rfl) rfl
theorem newCoder_c {b:Big} {K:List OwnE} {ids:List Id} (hb:b.nodes.length≤1048576) (sp:Sep H n K ids) :
    CallsA Tryz.prog 92 [.agg (Big.cells false b)] H n (fun r H1 n1=>∃ X,r = .ptr X 1 0 0∧X ∉ ids∧H1 X=some ⟨9,[cdE none b (.v (.slice none 0 0)) (.list true ((List.replicate b.nodes.length (-1:Int)).map intC)) (.v (.slice none 0 0))]⟩ ∧
      Sep H1 n1 K (X::ids)∧(∀ i ∈ ids,H1 i=H i)∧n≤n1):=by
  refine CallsA.of Tryz.func92 rfl Tryz.ntmps92 (by simp) fun Q hQ=>?_
  refine Runs.seqE Ty_ok (by decide) fun k' hk'=>?_
  simp[Big.cells]
  apply hk'
  refine Runs.seqD Ty_ok kindOp_ok draws (by decide) (by kernel_rfl) fun k' hk'=>?_
  have f1:=fun H=>len_list (H:=H) (fr:=false) (f:=GNode.cells false) (l:=b.nodes) kd_35 rfl
  simp[encN,f1,List.range_succ,-lenF]
  refine RunDK.callA Ty_ok kindOp_ok ((repeat_ok (-1) b.nodes.length ⟨by omega,by omega⟩).pure) e128 (.cons (ArgOk.listF (fr:=true) (els:=[intC (-1)]) (by simp[intC])) (.cons (.v _ _ _) .nil)) (by decide) rfl (by simp[intC]) ?_
  simp
  apply hk'
  refine Runs.ret1 (v:=.ptr (n+1,10) 1 0 0) Tryz.func92 Tryz.results92 (by simp) (hQ _ _ _ ⟨(n+1,10),rfl,fun h=>by have:=sp.1 _ h;simp at this;omega,by simp[cdE,Big.cells,encN],?_,fun i hi=>?_,by omega⟩)
  · exact Sep.sub (Sep.var (Sep.var sp)) (by simp +contextual)
  · have h1:=sp.1 i hi
    rw[Heap.get_set_ne _ _ (by rintro rfl;simp at h1;omega),Heap.get_set_ne _ _ (by rintro rfl;simp at h1)]
theorem cdE_map {o:Option AVal} {b:Big} {E P c:AVal} {φ:AVal→AVal} (hφ:∀ a,Imm a→φ a=a) (hE:Imm E) (hP:φ P=P∨True):(cdE o b E P c).map φ=cdE (o.map φ) b E (φ P) (φ c):=by
  have h1:(Big.cells false b).map φ=Big.cells false b:=by
    conv=>rhs;rw[← List.map_id (Big.cells false b)]
    exact List.map_congr_left fun a ha=>hφ a (imm_big false b a ha)
  simp only[cdE,List.map_append,h1,List.map_cons,List.map_nil,hφ E hE]
  cases o<;>rfl
theorem immI (l:List Int):Imm (.list true (l.map intC)):=.list _ _ fun e he a ha=>by
  obtain⟨x,_,rfl⟩:=List.mem_map.1 he
  simp only[intC,List.mem_singleton] at ha
  subst ha
  exact .v _
structure CzOk (b:Big) (m:Nat) (s:Cz):Prop where
  pl:s.pl.length=b.nodes.length
  es:s.es.length≤3 * m
  lo:∀ v ∈ s.pl,-1≤v∧v≤8
  num:s.num=m
theorem czOk0 (b:Big):CzOk b 0 (s0C b):=⟨by simp[s0C],by simp[s0C],fun v hv=>by have:=(List.mem_replicate.1 hv).2;omega,rfl⟩
theorem CzOk.step {sig:Sig} {b:Big} {m:Nat} {s:Cz} {k:Int} (hv:ValidB sig b) (h:CzOk b m s) (hk:0≤k∧k<b.nodes.length) (hm:m≤8):CzOk b (m+1) (stepC b s k):=by
  have h3:=hv.links3 hk
  have h4:=linksC_len2 b (at' b.nodes k).links s.es
  refine⟨by simp[stepC,h.pl],?_,fun v hx=>?_,by simp[stepC,h.num]⟩
  · have:=h.es
    simp only[stepC,chunkC]
    omega
  · have hn:=h.num
    simp only[stepC] at hx
    rcases List.mem_or_eq_of_mem_set hx with hx | rfl
    · exact h.lo v hx
    · omega
theorem CzOk.at {b:Big} {m:Nat} {s:Cz} (h:CzOk b m s) {p:Int} (hp:0≤p∧p<s.pl.length):I64 (4+at' s.pl p):=by
  have:=h.lo _ (at_mem hp)
  exact⟨by omega,by omega⟩
theorem ValidB.i64par {sig:Sig} {b:Big} (h:ValidB sig b) {i:Int} (hi:0≤i∧i<b.nodes.length):I64 (-1 - (at' b.nodes i).parent):=by
  have h1:=h.parAt hi
  have h2:=h.roots
  have h3:=h.len
  exact⟨by omega,by omega⟩
theorem ValidB.i64lnk {sig:Sig} {b:Big} (h:ValidB sig b) {i:Int} (hi:0≤i∧i<b.nodes.length):∀ l ∈ (at' b.nodes i).links,I64 (l - b.edges):=fun l hl=>by
  have h1:=h.linksAt hi l hl
  have h2:=h.edges
  have h3:=h.outer
  exact⟨by omega,by omega⟩
end
end Go.Ab.Vg
