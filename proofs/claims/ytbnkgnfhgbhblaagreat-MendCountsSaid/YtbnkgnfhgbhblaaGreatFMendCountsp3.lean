/- What the proof of this claim leans on, part 3. -/
import Derived.Test.YtbnkgnfhgbhblaaGreatFMendCountsp2
set_option linter.all false
set_option maxRecDepth 100000
open Go Go.Esc
noncomputable section
open Bool renaming and_eq_true→E5S,and_false→E6T,false_and→E51,not_eq_true'→E6I,not_false→E6Q,not_true→E6V,or_eq_true→E6S,true_and→E55,false→A6,true→A5
open Int renaming cast_ofNat_Int→E6r,toNat_natCast→E6c
open IntKind renaming wrap→E5U
open List renaming all_cons→E6B,all_eq_true→E6M,append_assoc→E5Y,append_nil→E6m,cons_append→E6q,drop_drop→E6P,drop_eq_getElem_cons→E5X,drop_of_length_le→E56,drop_zero→E6a,getD_eq_getElem?_getD→E5Z,getElem?_cons_succ→E6F,getElem?_drop→E6J,getElem?_eq_getElem→E5P,getElem?_eq_none→E6x,getElem?_take_of_lt→E6s,getElem_mem→E6v,length_append→E5T,length_cons→E52,length_drop→E6O,length_nil→E6h,length_replicate→E6n,length_set→E6o,length_take→E6l,map_append→E6N,map_cons→E6X,mem_cons_of_mem→E6f,mem_cons_self→E6g,mem_of_getElem?→E6j,mem_or_eq_of_mem_set→E6A,nil_append→E59,range→E6p,range'→E6y,replicate→E5R,replicate_succ→E6k,set_append_right→E6u,set_cons_succ→E6H,set_cons_zero→E6G,take_of_length_le→E53,take_succ_eq_append_getElem→E58,take_zero→E6U
open Nat renaming add_zero→E6E,le_refl→E5V,le_trans→E6w,min_eq_left→E6R,mod_eq_of_lt→E6K,sub_self→E6D,zero_add→E6e
open Option renaming bind_some→E54,getD_none→E6L,getD_some→E6z,isSome_none→E6i,isSome_some→E6b,none→A7,some→A4
open Go.Proofs.Tryz renaming prog→A8
namespace Go.Proofs.YtbnkgnfhgbhblaaGreat
def D3W (h:Nat) (c:UInt8):Nat:=((h ^^^ c.toNat)*16777619)%4294967296
def B24 (h:Nat) (s:List UInt8):Nat:=s.foldl D3W h
def A0D (s:List UInt8):Nat:=B24 2166136261 s
def D19 {h:Nat} {c:UInt8}:D3W h c<4294967296:=Nat.mod_lt _ (by omega)
def D5j {s:List UInt8}:∀ {h:Nat},h<4294967296->B24 h s<4294967296:=by
 induction s with
 | nil=>intro h hh;exact hh
 | cons c s ih=>intro h _;exact ih D19
def C4k {s:List UInt8}:A0D s<4294967296:=D5j (by omega)
def D2F {a:Int}:E5U .u32 a=a%4294967296:=by
 simp only [E5U,IntKind.bits,IntKind.signed,E51];rfl
def B4r {s:List UInt8} (hs:s.length<9223372036854775807) {q:Nat} {h:B5}:∀ (d i m H:Nat),i+d=s.length->d<m->H<4294967296 ->
  C2G q m (.c (.i .u32 H)) (.c (.s s)) (iV s.length) (iV i) h=A4 (.c (.i .u32 ((B24 H (s.drop i):Nat):Int)),h)
 | d,i,0,H,_,hm,_=>by omega
 | 0,i,m+1,H,hi,hm,hH=>by
  have c0:¬ (i:Int)<s.length:=by omega
  rw [B2d,E56 (by omega)];simp only [esc,c0,B24,List.foldl_nil]
 | d+1,i,m+1,H,hi,hm,hH=>by
  have h2:i<s.length:=by omega
  have hb:=s[i].toNat_lt;have ih:=B4r hs (q:=q) (h:=h) d (i+1) m (D3W H s[i]) (by omega) (by omega) D19;have c0:(i:Int)<s.length:=by omega
  have e1:E5U .u32 (s[i].toNat:Int)=s[i].toNat:=wrap_u32 (by omega) (by omega);have e2:=E1T (a:=H) (b:=s[i].toNat) hH (by omega);have e3:E5U .u32 (((H ^^^ s[i].toNat:Nat):Int)*16777619)=((D3W H s[i]:Nat):Int):=by
   rw [D2F];unfold D3W;omega
  rw [B2d,E5X h2];simp only [esc,c0,kR h2,e1,e2,e3,D3 (show i+1<9223372036854775808 by omega)];exact ih
def D0J {s:List UInt8} (hs:s.length<9223372036854775807) {h:B5}:B7y [.c (.s s)] h=A4 (.c (.i .u32 ((A0D s:Nat):Int)),h):=by
 have hm:∀ h,B5I [.c (.i .u32 2166136261),.c (.s s)] h=A4 (.c (.i .u32 ((A0D s:Nat):Int)),h):=λh=>by
  refine C3Q (n:=s.length+1) (h2:=ro h) ?_ rfl;rw [C8L];have:=B4r hs (q:=s.length+1) (h:=ro h) s.length 0 (s.length+1) 2166136261 (by omega) (by omega) (by omega);simp only [esc];exact this
 refine C8U (n:=0) (h2:=ro h) ?_ rfl;rw [D2H];simp only [esc,hm]
def E1S {h c:Nat} (hc:c<256):h-h%256+(h%256 ^^^ c)=h ^^^ c:=by
 have e1:(h ^^^ c)/256=h/256:=by
  have:=Nat.xor_div_two_pow (a:=h) (b:=c) (n:=8);rw [show (2:Nat) ^ 8=256 from rfl,Nat.div_eq_of_lt hc,Nat.xor_zero] at this;exact this
 have e2:(h ^^^ c)%256=h%256 ^^^ c:=by
  have:=Nat.xor_mod_two_pow (a:=h) (b:=c) (n:=8);rw [show (2:Nat) ^ 8=256 from rfl,E6K hc] at this;exact this
 have h1:=Nat.div_add_mod (h ^^^ c) 256;have h2:=Nat.div_add_mod h 256;rw [e1,e2] at h1;omega
def A9p {s:List UInt8} (hs:s.length<9223372036854775807) {q:Nat} {h:B5}:∀ (d i m H:Nat),i+d=s.length->d<m->H<4294967296 ->
  B8a q m (.c (.i .u64 H)) (.c (.s s)) (iV i) h=A4 (.c (.i .u64 ((B24 H (s.drop i):Nat):Int)),h)
 | d,i,0,H,_,hm,_=>by omega
 | 0,i,m+1,H,hi,hm,hH=>by
  have c0:¬ (i:Int)<s.length:=by omega
  rw [A8X,E56 (by omega)];simp only [esc,c0,B24,List.foldl_nil]
 | d+1,i,m+1,H,hi,hm,hH=>by
  have h2:i<s.length:=by omega
  have hb:=s[i].toNat_lt;have ih:=A9p hs (q:=q) (h:=h) d (i+1) m (D3W H s[i]) (by omega) (by omega) D19;have c0:(i:Int)<s.length:=by omega
  have hx:(H ^^^ s[i].toNat)<2 ^ 32:=Nat.xor_lt_two_pow (by simpa using hH) (by omega);have e0:N4 .rem (.c (.i .u64 (H:Int))) (.c (.i .u64 256))=A4 (.c (.i .u64 ((H%256:Nat):Int))):=by
   rw [A2G (by omega) (by omega)];simp
  have e1:E5U .u64 (s[i].toNat:Int)=s[i].toNat:=wrap_u64 (by omega) (by omega);have e2:N4 .xor (.c (.i .u64 ((H%256:Nat):Int))) (.c (.i .u64 (s[i].toNat:Int)))=A4 (.c (.i .u64 ((H%256 ^^^ s[i].toNat:Nat):Int))):=by
   rw [D2U];have h1:(IntKind.u64).bits=64:=rfl;have h3:(H%256 ^^^ s[i].toNat)<2 ^ 64:=Nat.xor_lt_two_pow (by omega) (by omega);rw [h1];simp only [BitVec.ofInt_natCast,BitVec.toNat_xor,BitVec.toNat_ofNat];rw [E6K (show H%256<2 ^ 64 by omega),E6K (show s[i].toNat<2 ^ 64 by omega)];exact congrArg A4 (congrArg Val.c (congrArg (Cell.i .u64) (wrap_u64 (by omega) (by omega))))
  have hl:=E1S (h:=H) (c:=s[i].toNat) (by omega);have e3:E5U .u64 ((H:Int)-((H%256:Nat):Int))=((H-H%256:Nat):Int):=by rw [wrap_u64 (by omega) (by omega)];omega
  have e4:E5U .u64 (((H-H%256:Nat):Int)+((H%256 ^^^ s[i].toNat:Nat):Int))=((H ^^^ s[i].toNat:Nat):Int):=by
   have e:((H-H%256:Nat):Int)+((H%256 ^^^ s[i].toNat:Nat):Int)=((H ^^^ s[i].toNat:Nat):Int):=by rw [<-hl];omega
   rw [e];exact wrap_u64 (by omega) (by omega)
  have e5:E5U .u64 (((H ^^^ s[i].toNat:Nat):Int)*16777619)=(((H ^^^ s[i].toNat)*16777619:Nat):Int):=by
   have e:((H ^^^ s[i].toNat:Nat):Int)*16777619=(((H ^^^ s[i].toNat)*16777619:Nat):Int):=by omega
   rw [e];exact wrap_u64 (by omega) (by omega)
  have e6:N4 .rem (.c (.i .u64 (((H ^^^ s[i].toNat)*16777619:Nat):Int))) (.c (.i .u64 4294967296))=A4 (.c (.i .u64 ((D3W H s[i]:Nat):Int))):=by
   rw [A2G (a:=(((H ^^^ s[i].toNat)*16777619:Nat):Int)) (b:=4294967296) (by omega) (by omega)];unfold D3W;exact congrArg A4 (congrArg Val.c (congrArg (Cell.i .u64) (by omega)))
  rw [A8X,E5X h2];simp only [esc,c0,e0,kR h2,e1,e2,e3,e4,e5,e6,D3 (show i+1<9223372036854775808 by omega)];exact ih
def C2M {s:List UInt8} (hs:s.length<9223372036854775807) {h:B5}:B2N [.c (.s s)] h=A4 (.c (.i .u64 ((A0D s:Nat):Int)),h):=by
 have hm:∀ h,B0K [.c (.i .u64 2166136261),.c (.s s)] h=A4 (.c (.i .u64 ((A0D s:Nat):Int)),h):=λh=>by
  refine B9V (n:=s.length+1) (h2:=ro h) ?_ rfl;rw [C4O];exact A9p hs (q:=s.length+1) (h:=ro h) s.length 0 (s.length+1) 2166136261 (by omega) (by omega) (by omega)
 refine C5t (n:=0) (h2:=ro h) ?_ rfl;rw [D1g];simp only [esc,hm]
section
variable (n m m2:Nat) (a0 x1 x3 x10:Val) (h:B5)
def bJ:FD A8:=⟨px 0X11201020152015052243cf2d006420406a5019024901a20415a2e2b185b0521520150062242cf1a0103249018204148292b51802428f1a018890520413a1e2b4020241df1a0490120412c1b2b4022d201911a15201200622419f3048890520401c72b4180246f30189012040642b402721801a050131103a2342,[],[],[.tmp 2],[]⟩
def A4I:=bJ.R
def C8b:AtH:=bJ.lj 0 n [] [x1,x3]
def C8c:AtH:=bJ.lj 1 n [] [x1,x10]
def A44:=tT [⟨1,2,C8b⟩,⟨1,2,C8c⟩]
def B9O:=mR A4I bJ A44 n [a0] h
def W5:=mJ bJ A44 0 n [] [x1,x3] h
def dT:=mJ bJ A44 1 n [] [x1,x10] h
def jM:=bJ.K Tryz.func43
def dY:=bJ.S
def B5L:F6 A4I dY:=jM.flat
def A3d:FD A8:=⟨px 0X113022f48860291a9642306818a15f488581c6711624ff18001630381a9103537e4881856e4227c4886069434378178488491c421248f113ff6011c2801a3f2c3ef3a0049164330426e549491703b18f181194e05325848860195964230415c54a4881850224848860194964230404c53a4882a1c50229f248861c51b011307818b177b166b152b145b134b123b112b10181b1811f5d51b41192011ef3003848862c101c3b471100722410321e1b0239421af400103283191c3194203111c4c03a353182,[.c (.i .u8 101),.c (.i .u8 115),.c (.i .u8 99),.c (.i .u8 104),.c (.i .u8 97),.c (.i .u8 116),.c (.i .u8 49)],[.b2s (.t 37)],[.cellN 2 256,.tmp 3],[E3 dY jM,cal D2N,cal C8Y,cal D1y,cal D1x,cal B7B,cal D2L]⟩
def B0t:=A3d.R
def C5l:=mR B0t A3d (tT []) n [a0] h
def A91:=A3d.K Tryz.func88
def A3I:=A3d.S
def C0v:F6 B0t A3I:=A91.flat
def A3c:FD A8:=⟨px 0X113022f367834a1c302016d3027e3602a3b3711622401b18190784e7a488783c5c488783c0110324c3a0718922007239f138f248861c71b1182806382c2ff2d001334832e1c18291f31c20132cf23612a065a012411181032a3b3e1195903234848818194903233c4881f1c71191d2531ef11df4011a280181d2c1cf1904910313496903032a4881a1c181942112a4c03a353182,[],[.eqA A5 (E5R 256 (.i .u8)) (.t 29) (.t 30)],[.cellN 2 3,.tmp 3],[cal B7B,cal D1w,cal D2M,E3 A3I A91]⟩
def B0s:=A3c.R
def C5k:=mR B0s A3c (tT []) n [a0] h
def A90:=A3c.K Tryz.func40
def A3H:=A3c.S
def C0u:F6 B0s A3H:=A90.flat
end
section
variable (n m m2:Nat) (a0 a1 x3 x6 x7:Val) (h:B5)
def A6W:FD A8:=⟨px 0X15001042100102,[],[],[.tmp 0],[]⟩
def C46:=A6W.R
def C8I:=mR C46 A6W (tT []) n [] h
def A1O:=A6W.K Tryz.func56
def wR:=A6W.S
def C3O:F6 C46 wR:=A1O.flat
def B2I:FD A8:=⟨px 0X15f20102201034318400523103a2342,[],[],[.tmp 2],[E3 dY jM]⟩
def B9y:=B2I.R
def D1o:=mR B9y B2I (tT []) n [a0] h
def B2L:=B2I.K Tryz.func118
def A5N:=B2I.S
def C5M:F6 B9y A5N:=B2L.flat
def A0W:FD A8:=⟨px 0X11bf1118f204901a204128550020175c6019030111120265001a22403f0103631831d4203111103a3342,[],[],[.tmp 2,.tmp 3],[E3 A5N B2L,E3 wR A1O]⟩
def A7m:=A0W.R
def C3b:=mR A7m A0W (tT []) n [a0] h
def A03:=A0W.K Tryz.func53
def tJ:=A0W.S
def B7t:F6 A7m tJ:=A03.flat
def A29:FD A8:=⟨px 0X11cf2004021e11e1a044006219f118f301182806182c7f5001031a361c719701921103a2342,[],[],[.tmp 2],[E3 tJ A03]⟩
def B0g:=A29.R
def C45:=mR B0g A29 (tT []) n [a0] h
def A3l:=A29.K Tryz.func93
def rF:=A29.S
def C0e:F6 B0g rF:=A3l.flat
def wE:FD A8:=⟨px 0X11ff20381f02500001721ef7051e01e492181df300613901011113e1e11e1a051819f4041218421503070243134012129420060511010318351c31f1d18201314a174214a03a2342,[],[],[.tmp 2],[E3 rF A3l]⟩
def C47:=wE.R
def C2z:AtH:=wE.lj 0 n [m] [x3,x6,x7]
def C56:=tT [⟨2,3,C2z⟩]
def C8J:=mR C47 wE C56 n [a0] h
def B1T:=mL wE C56 0 n [m] [x3,x6,x7] h
def B4M:=wE.K Tryz.func44
def A7P:=wE.S
def C5L:pY C47 A7P:=B4M.out
def sL:FD A8:=⟨px 0X128f40301a1906192f1a02f1e12e2f1f2e2f701306195041f1a1e1f701010363181d00062340422e253182,[],[],[.tmp 4],[E3 A5N B2L]⟩
def A1Y:=sL.R
def B64:=mR A1Y sL (tT []) n [a0,a1] h
def A9Q:=sL.K Tryz.func119
def A2d:=sL.S
def B3n:F6 A1Y A2d:=A9Q.flat
def A0X:FD A8:=⟨px 0X11b139f12ef4049018250725c1018024901a250724c12e2a01b4618001e229f128f701182806282c1ff1d001133831e1c71f300001b201311114031c1e2800001f22403f042032a11e3191c43942033111140422e453182,[],[],[.tmp 4,.tmp 5,.tmp 6],[E3 A2d A9Q,E3 tJ A03]⟩
def A7n:=A0X.R
def C3c:=mR A7n A0X (tT []) n [a0,a1] h
def A64:=A0X.K Tryz.func54
def A1b:=A0X.S
def B7u:F6 A7n A1b:=A64.flat
def yG:FD A8:=⟨px 0X12af40301a190613b1a03b1e03a3b1f3a3b701301a190641f1a0111f2f1e31f3c1e1f701010363181f00062340422e253182,[],[],[.tmp 4],[E3 A5N B2L,E3 rF A3l]⟩
def A4x:=yG.R
def B9x:=mR A4x yG (tT []) n [a0,a1] h
def B3z:=yG.K Tryz.func80
def A4R:=yG.S
def B5y:F6 A4x A4R:=B3z.flat
end
section
variable (n m m2:Nat) (a0:Val) (h:B5)
def A6Q:FD A8:=⟨px 0X14bf203028190616f1a06f1e07e6f1f01906f1a4901a6f1a06f1e16e6f1f01301a191025b1a490185b1a05b1e15a5b1f013018191889019491a0491e148491f0130181949042f1a02f1e12e2f1f0130181948890191d1a01d1e01c1d1f01189042040454a00523103a2342,[],[],[.tmp 2],[]⟩
def B4U:=A6Q.R
def C8v:=mR B4U A6Q (tT []) n [a0] h
def A61:=A6Q.K Tryz.func91
def A17:=A6Q.S
def C3x:F6 B4U A17:=A61.flat
def A6R:FD A8:=⟨px 0X13ef200143236c128892889173c7e420523bf3001a13902920301130385814e2e07022df300181390492030424a53c290601228f3001a1390192030580412e5281b07021af3001a1390192030580401a507818b177b166b152b145b134b123b112b10181b18145d1874214a03a2342,[.c (.i .u8 101),.c (.i .u8 115),.c (.i .u8 99),.c (.i .u8 104),.c (.i .u8 97),.c (.i .u8 116),.c (.i .u8 49)],[.b2s (.t 23)],[.tmp 2],[E3 dK nY,cal D1u,E3 lZ pX]⟩
def B4V:=A6R.R
def C8w:=mR B4V A6R (tT []) n [a0] h
def C4t:=A6R.K Tryz.func92
def B5k:=A6R.S
def C5w:pY B4V B5k:=C4t.out
def A6P:FD A8:=⟨px 0X11b3026e365e33d1c3020133026c3602a3b3711622401b1c1905a4d04245a2f75a70135a2f4835a3c0103f01233832a1c1a6f4201329f2362a61b012411181032a3b38119590313711949031371c0181d2521bf11af4011828061a2c19f7049690303718071942312a21b250182,[],[],[.cellN 2 3,.tmp 3],[E3 A7F B4J,E3 oC A1B,E3 A17 A61,E3 B5k C4t,E3 gO lA]⟩
def B4T:=A6P.R
def C8u:=mR B4T A6P (tT []) n [a0] h
def C4s:=A6P.K Tryz.func42
def B5j:=A6P.S
def C3w:F6 B4T B5j:=C4s.flat
end
section
variable (n m m2:Nat) (a0 a1 x1 x7 x8 x9:Val) (h:B5)
def A20:FD A8:=⟨px 0X12940102011d4015e0522406120415e549062190725a2e066f42013012df4050024e133e00007224190124a2a024f424601930114013a0000722401b1a19064381a0381e038381f383870101b619101281a282870103f010363181d4b4203140422e253182,[],[],[.tmp 4],[E3 A17 A61]⟩
def A99:=A20.R
def C4T:=mR A99 A20 (tT []) n [a0,a1] h
def A3k:=A20.K Tryz.func47
def zM:=A20.S
def C5x:SOk A8 47 zM:=A3k.sok
def B9Y:F6 A99 zM:=A3k.flat
def B2E:FD A8:=⟨px 0X128f40301a1906192f1a02f1e12e2f1f2e2f701306195041f1a1e1f701010363181d00062340422e253182,[],[],[.tmp 4],[E3 A17 A61]⟩
def B9s:=B2E.R
def D1i:=mR B9s B2E (tT []) n [a0,a1] h
def C9M:=B2E.K Tryz.func173
def B9Z:=B2E.S
def C5y:F6 B9s B9Z:=C9M.flat
def dH:FD A8:=⟨px 0X11b13af139f404c14c39056181a0000021f22af19050022829031801138f70500248141824490223a2d025d422cf18050022e2b0302154111a0702404123c11a1e03494203006055112b3182013111912291f300001f201311114031e282a001e22403f042032c12831a1c43b421133111140422e453182,[],[],[.tmp 4,.tmp 5,.tmp 6],[E3 B9Z C9M]⟩
def A7h:=dH.R
def B36:AtH:=dH.lj 0 n [m] [x1,x7,x8,x9]
def C88:AtH:=dH.lj 1 n [m] [x1,x7,x8,x9]
def A7V:=tT [⟨2,4,B36⟩,⟨2,4,C88⟩]
def C22:=mR A7h dH A7V n [a0,a1] h
def A6c:=mL dH A7V 0 n [m] [x1,x7,x8,x9] h
def A6b:=mJ dH A7V 1 n [m] [x1,x7,x8,x9] h
def B6J:=dH.K Tryz.func106
def A7H:=dH.S
def C3y:SOk A8 106 A7H:=B6J.sok
def B7n:F6 A7h A7H:=B6J.flat
end
def R7 (b n:Int):Bool:=decide (16<=b)&&decide (b<=512)&&decide (8<=n)&&decide (n<=128)&&decide (n%8=0)&&decide (2+n/8<b)
def J8 {b n:Int}:R7 b n=A5↔16<=b/\b<=512/\8<=n/\n<=128/\n%8=0/\2+n/8<b:=by
 unfold R7;simp [and_assoc]
def aV {b n:Int}:R7 b n=A6↔¬ (16<=b/\b<=512/\8<=n/\n<=128/\n%8=0/\2+n/8<b):=by
 rw [<-J8];simp
abbrev D7 (b n m:Int):List Cell:=[.i .i64 b,.i .i64 n,.i .u64 m]
def cJ {b n m:Int} {h:B5}:dY [.a (D7 b n m)] h=A4 (iV (bif R7 b n then 0 else 1),h):=by
 have key:∀ g,∃ g',A4I 0 [.a (D7 b n m)] g=A4 (iV (bif R7 b n then 0 else 1),g'):=by
  intro g;rw [B9O];have bad:R7 b n=A6->(A4 (iV 1,g++[rT (D7 b n m)]))=A4 (iV (bif R7 b n then 0 else 1),g++[rT (D7 b n m)]):=λh=>by rw [h];rfl
  by_cases c1:b<16
  ·rw [aV.2 (by omega)];exact ⟨_,by simp only [esc,esh,c1,W5]<;>rfl⟩
  ·by_cases c2:512<b
   ·rw [aV.2 (by omega)];exact ⟨_,by simp only [esc,esh,c1,c2,W5]<;>rfl⟩
   ·by_cases c3:n<8
    ·rw [aV.2 (by omega)];exact ⟨_,by simp only [esc,esh,c1,c2,c3,W5,dT]<;>rfl⟩
    ·by_cases c4:128<n
     ·rw [aV.2 (by omega)];exact ⟨_,by simp only [esc,esh,c1,c2,c3,c4,W5,dT]<;>rfl⟩
     ·have e1:=A2G (a:=n) (b:=8) (k:=.i64) (by omega) (by omega);by_cases c5:n%8=0
      ·have e2:=uQ (a:=n) (b:=8) (by omega) (by omega) (by omega);have e3:E5U .i64 (2+n/8)=2+n/8:=wrap_i64 (by omega) (by omega);by_cases c6:b<=2+n/8
       ·rw [aV.2 (by omega)];exact ⟨_,by simp only [esc,esh,c1,c2,c3,c4,e1,c5,e2,e3,c6,W5,dT]<;>rfl⟩
       ·rw [J8.2 (by omega)];exact ⟨_,by simp only [esc,esh,c1,c2,c3,c4,e1,c5,e2,e3,c6,W5,dT]<;>rfl⟩
      ·rw [aV.2 (by omega)];exact ⟨_,by simp only [esc,esh,c1,c2,c3,c4,e1,c5,W5,dT]<;>rfl⟩
 obtain ⟨g',e⟩:=key (ro h);exact B5L e (by simp)
def Y2 {b n m:Int} {h:B5}:A17 [.a (D7 b n m)] h=A4 (bV (R7 b n),h):=by
 have key:∀ g,∃ g',B4U 0 [.a (D7 b n m)] g=A4 (bV (R7 b n),g'):=by
  intro g;rw [C8v];by_cases c1:16<=b
  ·by_cases c2:b<=512
   ·by_cases c3:8<=n
    ·by_cases c4:n<=128
     ·have e1:=A2G (a:=n) (b:=8) (k:=.i64) (by omega) (by omega);by_cases c5:n%8=0
      ·have e2:=uQ (a:=n) (b:=8) (by omega) (by omega) (by omega);have e3:E5U .i64 (2+n/8)=2+n/8:=wrap_i64 (by omega) (by omega);by_cases c6:2+n/8<b
       ·rw [J8.2 (by omega)];exact ⟨_,by simp only [esc,esh,c1,c2,c3,c4,e1,c5,e2,e3,c6]<;>rfl⟩
       ·rw [aV.2 (by omega)];exact ⟨_,by simp only [esc,esh,c1,c2,c3,c4,e1,c5,e2,e3,c6]<;>rfl⟩
      ·rw [aV.2 (by omega)];exact ⟨_,by simp only [esc,esh,c1,c2,c3,c4,e1,c5]<;>rfl⟩
     ·rw [aV.2 (by omega)];exact ⟨_,by simp only [esc,esh,c1,c2,c3,c4]<;>rfl⟩
    ·rw [aV.2 (by omega)];exact ⟨_,by simp only [esc,esh,c1,c2,c3]<;>rfl⟩
   ·rw [aV.2 (by omega)];exact ⟨_,by simp only [esc,esh,c1,c2]<;>rfl⟩
  ·rw [aV.2 (by omega)];exact ⟨_,by simp only [esc,esh,c1]<;>rfl⟩
 obtain ⟨g',e⟩:=key (ro h);exact C3x e (by simp)
def mV {b n m:Int} {h:B5}:A5N [.a (D7 b n m)] h=A4 (bV (R7 b n),h):=by
 have key:∀ g,∃ g',B9y 0 [.a (D7 b n m)] g=A4 (bV (R7 b n),g'):=by
  intro g;rw [D1o];cases c:R7 b n with
  | true=>exact ⟨_,by simp only [esc,esh,Nat.reduceAdd,cJ,c]<;>rfl⟩
  | false=>exact ⟨_,by simp only [esc,esh,Nat.reduceAdd,cJ,c,Int.reduceEq]<;>rfl⟩
 obtain ⟨g',e⟩:=key (ro h);exact C5M e (by simp)
def rV {h:B5}:wR [] h=A4 (iV 1,h) :=
 C3O (n:=0) (h2:=ro h) (by rw [C8I]) rfl
def uY (b n:Int):Int:=bif R7 b n then 2 else 0
def A2M (b n:Int):Int:=bif R7 b n then n/8 else 0
def mS (b n:Int):Int:=uY b n+A2M b n
def A5l {b n m:Int} {h:B5}:tJ [.a (D7 b n m)] h=A4 (.t [.c (.i .i64 (uY b n)),.c (.i .i64 (A2M b n))],h):=by
 have key:∀ g,∃ g',A7m 0 [.a (D7 b n m)] g=A4 (.t [.c (.i .i64 (uY b n)),.c (.i .i64 (A2M b n))],g'):=by
  intro g;rw [C3b];unfold uY A2M;cases c:R7 b n with
  | true =>
   have c':=J8.1 c;have e2:=uQ (a:=n) (b:=8) (by omega) (by omega) (by omega);have e3:E5U .i64 (1+1)=2:=wrap_i64 (by omega) (by omega);exact ⟨_,by simp only [esc,esh,Nat.reduceAdd,mV,c,rV,e2,e3]<;>rfl⟩
  | false=>exact ⟨_,by simp only [esc,esh,Nat.reduceAdd,mV,c]<;>rfl⟩
 obtain ⟨g',e⟩:=key (ro h);exact B7t e (by simp)
def A2q {b n:Int}:0<=mS b n/\mS b n<=18:=by
 unfold mS uY A2M;cases c:R7 b n with
 | true=>have:=J8.1 c;simp only [cond_true];omega
 | false=>simp only [cond_false];omega
def A1o {b n m:Int} {h:B5}:rF [.a (D7 b n m)] h=A4 (iV (mS b n),h):=by
 have key:∀ g,∃ g',B0g 0 [.a (D7 b n m)] g=A4 (iV (mS b n),g'):=by
  intro g;rw [C45];have hr:=A2q (b:=b) (n:=n);have e3:E5U .i64 (uY b n+A2M b n)=mS b n:=wrap_i64 (by unfold mS at hr;omega) (by unfold mS at hr;omega);exact ⟨_,by simp only [esc,esh,Nat.reduceAdd,A5l,e3]<;>rfl⟩
 obtain ⟨g',e⟩:=key (ro h);exact C0e e (by simp)
def S4 (b n i:Int):Bool:=R7 b n&&decide (1<=i)&&decide (i<=n)
def jW (b n i:Int):Bool:=R7 b n&&decide (mS b n<=i)&&decide (i<b)
def A88 {b n m i:Int} {h:B5}:A2d [.a (D7 b n m),iV i] h=A4 (bV (S4 b n i),h):=by
 have key:∀ g,∃ g',A1Y 0 [.a (D7 b n m),iV i] g=A4 (bV (S4 b n i),g'):=by
  intro g;rw [B64];unfold S4;cases c:R7 b n with
  | true =>
   by_cases c1:1<=i
   ·exact ⟨_,by simp only [esc,esh,Nat.reduceAdd,mV,c,c1]<;>rfl⟩
   ·exact ⟨_,by simp only [esc,esh,Nat.reduceAdd,mV,c,c1]<;>rfl⟩
  | false=>exact ⟨_,by simp only [esc,esh,Nat.reduceAdd,mV,c]<;>rfl⟩
 obtain ⟨g',e⟩:=key (ro h);exact B3n e (by simp)
def C2N {b n m i:Int} {h:B5}:B9Z [.a (D7 b n m),iV i] h=A4 (bV (S4 b n i),h):=by
 have key:∀ g,∃ g',B9s 0 [.a (D7 b n m),iV i] g=A4 (bV (S4 b n i),g'):=by
  intro g;rw [D1i];unfold S4;cases c:R7 b n with
  | true =>
   by_cases c1:1<=i
   ·exact ⟨_,by simp only [esc,esh,Nat.reduceAdd,Y2,c,c1]<;>rfl⟩
   ·exact ⟨_,by simp only [esc,esh,Nat.reduceAdd,Y2,c,c1]<;>rfl⟩
  | false=>exact ⟨_,by simp only [esc,esh,Nat.reduceAdd,Y2,c]<;>rfl⟩
 obtain ⟨g',e⟩:=key (ro h);exact C5y e (by simp)
def C60 {b n m i:Int} {h:B5}:A4R [.a (D7 b n m),iV i] h=A4 (bV (jW b n i),h):=by
 have key:∀ g,∃ g',A4x 0 [.a (D7 b n m),iV i] g=A4 (bV (jW b n i),g'):=by
  intro g;rw [B9x];unfold jW;cases c:R7 b n with
  | true =>
   by_cases c1:mS b n<=i
   ·exact ⟨_,by simp only [esc,esh,Nat.reduceAdd,mV,A1o,c,c1]<;>rfl⟩
   ·exact ⟨_,by simp only [esc,esh,Nat.reduceAdd,mV,A1o,c,c1]<;>rfl⟩
  | false=>exact ⟨_,by simp only [esc,esh,Nat.reduceAdd,mV,c]<;>rfl⟩
 obtain ⟨g',e⟩:=key (ro h);exact B5y e (by simp)
def X3 (b n i:Int):Int:=bif S4 b n i then 2+(i-1)/8 else 0
def cZ (b n i:Int):Int:=bif S4 b n i then (i-1)%8 else 0
def nB {b n i:Int}:S4 b n i=A5↔R7 b n=A5/\1<=i/\i<=n:=by
 unfold S4;simp [and_assoc]
def D3R {b n i:Int}:jW b n i=A5↔R7 b n=A5/\mS b n<=i/\i<b:=by
 unfold jW;simp [and_assoc]
def A5m {b n m i:Int} {h:B5}:A1b [.a (D7 b n m),iV i] h=A4 (.t [.c (.i .i64 (X3 b n i)),.c (.i .i64 (cZ b n i)),.c (.b (S4 b n i))],h):=by
 have key:∀ g,∃ g',A7n 0 [.a (D7 b n m),iV i] g=A4 (.t [.c (.i .i64 (X3 b n i)),.c (.i .i64 (cZ b n i)),.c (.b (S4 b n i))],g'):=by
  intro g;rw [C3c];unfold X3 cZ;cases c:S4 b n i with
  | true =>
   obtain ⟨c1,c2,c3⟩:=nB.1 c;have c':=J8.1 c1;have e0:uY b n=2:=by unfold uY;rw [c1];rfl
   have e1:E5U .i64 (i-1)=i-1:=wrap_i64 (by omega) (by omega);have e2:=uQ (a:=i-1) (b:=8) (by omega) (by omega) (by omega);have e3:E5U .i64 (2+(i-1)/8)=2+(i-1)/8:=wrap_i64 (by omega) (by omega);have e4:=A2G (a:=i-1) (b:=8) (k:=.i64) (by omega) (by omega);exact ⟨_,by simp only [esc,esh,Nat.reduceAdd,A88,c,A5l,e0,e1,e2,e3,e4]<;>rfl⟩
  | false=>exact ⟨_,by simp only [esc,esh,Nat.reduceAdd,A88,c]<;>rfl⟩
 obtain ⟨g',e⟩:=key (ro h);exact B7u e (by simp)
def D73 {b n:Int}:0<=uY b n/\uY b n<=2/\0<=A2M b n/\A2M b n<=16:=by
 unfold uY A2M;cases c:R7 b n with
 | true=>have:=J8.1 c;simp only [cond_true];omega
 | false=>simp only [cond_false];omega
def upto (d:Nat):List Int:=(E6p d).map λ(i:Nat)=>(i:Int)
def upto_length {d:Nat}:(upto d).length=d:=by simp [upto]
def upto_succ {d:Nat}:upto (d+1)=upto d++[(d:Int)]:=by simp [upto,List.range_succ]
def B4j {g:B5} {D k:Nat} (hD:D<=18):∀ d i m h id,i+d=D->d<m->Low g.length g h->g.length<=id->rd h id=rT (encI (upto i)) ->
  ∃ v' h',C2z k m (sV id 0 i 1) (iV D) (iV i) h=A4 (v',h')/\Out g.length h' v' 1 D (encI (upto D))
 | d,i,0,h,id,_,hm,_,_,_=>by omega
 | 0,i,m+1,h,id,hi,hm,hlow,hb,hr=>by
  have e:i=D:=by omega
  subst e;have h1':¬ (i:Int)<i:=by omega
  rw [B1T];exact ⟨_,_,by simp only [esc,h1']<;>rfl,by rw [B7,upto_length];omega,id,rfl,hb,hr⟩
 | d+1,i,m+1,h,id,hi,hm,hlow,hb,hr=>by
  obtain ⟨h',a1,a2,a3,a4,a5⟩:=push (ys:=[.i .i64 (i:Int)]) (sz:=1) (n:=i) hlow hr (by rw [B7,upto_length];omega) hb rfl (by omega) (by omega);have e4:encI (upto i)++[Cell.i .i64 (i:Int)]=encI (upto (i+1)):=by rw [upto_succ,A3X];rfl
  rw [e4] at a2;obtain ⟨v',h'',b1,b2⟩:=B4j (k:=k) hD d (i+1) m h' (h.length+1) (by omega) (by omega) a3 a4 a2;have h1':(i:Int)<D:=by omega
  have e5:E6 [o0] [(0,1,iV (i:Int))]=A4 [.i .i64 (i:Int)]:=rfl;rw [B1T];exact ⟨v',h'',by simp only [esc,h1',e5,a1,D3 (show i+1<9223372036854775808 by omega)];exact b1,b2⟩
def C2y {b n m:Int} {h:B5}:A7P [.a (D7 b n m)] h=A4 (sV h.length 0 (mS b n).toNat 1,h++[rT (encI (upto (mS b n).toNat))]):=by
 have hr:=A2q (b:=b) (n:=n);obtain ⟨v',h',e,ho⟩:=B4j (g:=ro h) (D:=(mS b n).toNat) (k:=(mS b n).toNat+1) (by omega) (mS b n).toNat 0 ((mS b n).toNat+1) (ro h++[rT (D7 b n m),rT [],rT []]) ((ro h).length+2) (by omega) (by omega) ((Low.refl (E5V _)).new _) (by omega) (by simp;rfl);refine C5L (n:=(mS b n).toNat+1) (v:=v') (h2:=h') ?_ (by simpa [F7] using ho) (by simp);rw [C8J];rw [show (((mS b n).toNat:Nat):Int)=mS b n by omega] at e;simp only [esc,esh,Nat.reduceAdd,A1o];exact e
def A6G {h:B5} {I k:Nat} (hI:1<=I) (hI2:I<=128):∀ d i m:Nat,i+d=I->d<m->1<=i ->
  B36 k m (iV I) (iV ((2+(i-1)/8:Nat):Int)) (iV (((i-1)%8:Nat):Int)) (iV i) h=A4 (.t [.c (.i .i64 ((2+(I-1)/8:Nat):Int)),.c (.i .i64 (((I-1)%8:Nat):Int)),.c (.b A5)],h)
 | d,i,0,_,hm,_=>by omega
 | 0,i,m+1,hi,hm,h1=>by
  have e:i=I:=by omega
  subst e;have c0:¬ (i:Int)<i:=by omega
  rw [A6c];simp only [esc,c0]
 | d+1,i,m+1,hi,hm,h1=>by
  have ih:=A6G (h:=h) (k:=k) hI hI2 d (i+1) m (by omega) (by omega) (by omega);have c0:(i:Int)<I:=by omega
  rw [A6c];by_cases c1:(i-1)%8+1=8
  ·have c1':(((i-1)%8+1:Nat):Int)=8:=by omega
   have e1:2+(i+1-1)/8=2+(i-1)/8+1:=by omega
   have e2:(i+1-1)%8=0:=by omega
   rw [e1,e2] at ih;simp only [esc,c0,D3 (show (i-1)%8+1<9223372036854775808 by omega),c1',D3 (show 2+(i-1)/8+1<9223372036854775808 by omega),A6b,D3 (show i+1<9223372036854775808 by omega)];exact ih
  ·have c1':¬ (((i-1)%8+1:Nat):Int)=8:=by omega
   have e1:2+(i+1-1)/8=2+(i-1)/8:=by omega
   have e2:(i+1-1)%8=(i-1)%8+1:=by omega
   rw [e1,e2] at ih;simp only [esc,c0,D3 (show (i-1)%8+1<9223372036854775808 by omega),c1',A6b,D3 (show i+1<9223372036854775808 by omega)];exact ih
def C7V {b n m i:Int} {h:B5}:A7H [.a (D7 b n m),iV i] h=A4 (.t [.c (.i .i64 (X3 b n i)),.c (.i .i64 (cZ b n i)),.c (.b (S4 b n i))],h):=by
 have key:∀ g,∃ g',A7h (i.toNat+1) [.a (D7 b n m),iV i] g=A4 (.t [.c (.i .i64 (X3 b n i)),.c (.i .i64 (cZ b n i)),.c (.b (S4 b n i))],g'):=by
  intro g;rw [C22];unfold X3 cZ;cases c:S4 b n i with
  | true =>
   obtain ⟨c1,c2,c3⟩:=nB.1 c;have c':=J8.1 c1;have:=A6G (h:=g++[rT (D7 b n m)]) (I:=i.toNat) (k:=i.toNat+1) (by omega) (by omega) (i.toNat-1) 1 (i.toNat+1) (by omega) (by omega) (by omega);rw [show ((i.toNat:Nat):Int)=i by omega,show ((2+(1-1)/8:Nat):Int)=2 from rfl,show (((1-1)%8:Nat):Int)=0 from rfl,show ((1:Nat):Int)=1 from rfl,show ((2+(i.toNat-1)/8:Nat):Int)=2+(i-1)/8 by omega,show (((i.toNat-1)%8:Nat):Int)=(i-1)%8 by omega] at this;exact ⟨_,by simp only [esc,esh,Nat.reduceAdd,C2N,c];exact this⟩
  | false=>exact ⟨_,by simp only [esc,esh,Nat.reduceAdd,C2N,c]<;>rfl⟩
 obtain ⟨g',e⟩:=key (ro h);exact B7n e (by simp)
def vK (b n no:Int):Int:=if R7 b n=A5/\0<=no/\no<b then (if no<2 then no+1 else if (no-2)*8<n then 3 else 4) else 0
def A5u {b n m no:Int} {h:B5}:zM [.a (D7 b n m),iV no] h=A4 (iV (vK b n no),h):=by
 have key:∀ g,∃ g',A99 0 [.a (D7 b n m),iV no] g=A4 (iV (vK b n no),g'):=by
  intro g;rw [C4T];unfold vK;cases c:R7 b n with
  | true =>
   have c':=J8.1 c;by_cases c1:no<0
   ·rw [if_neg (by omega)];exact ⟨_,by simp only [esc,esh,Nat.reduceAdd,Y2,c,c1]<;>rfl⟩
   ·by_cases c2:b<=no
    ·rw [if_neg (by omega)];exact ⟨_,by simp only [esc,esh,Nat.reduceAdd,Y2,c,c1,c2]<;>rfl⟩
    ·rw [if_pos ⟨rfl,by omega,by omega⟩];by_cases c3:no<2
     ·rw [if_pos c3];have e1:E5U .i64 (no+1)=no+1:=wrap_i64 (by omega) (by omega);exact ⟨_,by simp only [esc,esh,Nat.reduceAdd,Y2,c,c1,c2,c3,e1]<;>rfl⟩
     ·rw [if_neg c3];have e1:E5U .i64 (no-2)=no-2:=wrap_i64 (by omega) (by omega);have e2:E5U .i64 ((no-2)*8)=(no-2)*8:=wrap_i64 (by omega) (by omega);by_cases c4:(no-2)*8<n
      ·rw [if_pos c4];exact ⟨_,by simp only [esc,esh,Nat.reduceAdd,Y2,c,c1,c2,c3,e1,e2,c4]<;>rfl⟩
      ·rw [if_neg c4];exact ⟨_,by simp only [esc,esh,Nat.reduceAdd,Y2,c,c1,c2,c3,e1,e2,c4]<;>rfl⟩
  | false =>
   rw [if_neg (by simp)];exact ⟨_,by simp only [esc,esh,Nat.reduceAdd,Y2,c]<;>rfl⟩
 obtain ⟨g',e⟩:=key (ro h);exact B9Y e (by simp)
def B2A (v:Int):0<=E5U .u64 v/\E5U .u64 v<18446744073709551616:=by
 have hw:E5U .u64 v=v%18446744073709551616:=by
  simp only [E5U,IntKind.bits,IntKind.signed,E51];rfl
 rw [hw];exact ⟨Int.emod_nonneg _ (by omega),Int.emod_lt_of_pos _ (by omega)⟩
def eG {w:Nat} {v:Int} {h:B5} (hw:w<=8):dK [iV w,.c (.i .u64 (E5U .u64 v))] h=A4 (sV h.length 0 w 1,h++[rT (B4 (C4 w v))]):=by
 rw [A2F hw (B2A v).1 (B2A v).2,D3h hw]
def D20 {h:B5} {id off len sz:Nat} {cs:List Cell} (hr:rd h id=rT cs) (hn:0<len):A0J h (sV id off len sz)=A4 (sV id off len sz):=by
 simp [A0J,hr,hn]
def magicB:List UInt8:=[101,115,99,104,101,97,116,49]
def cY (b n m:Int):List UInt8:=magicB++C4 2 b++C4 2 n++C4 8 m
def jY (b n m:Int):List UInt8:=P7 256 (cY b n m++C4 4 (A0D (cY b n m):Nat))
def T5 {b n m:Int}:(cY b n m).length=20:=by simp [cY,magicB]
def V0 {b n m:Int}:(jY b n m).length=256:=I6 (by rw [E5T,T5,Q8];omega)
def D9n {l xs:List UInt8} {a:Nat} (h1:l.length<=a) (h2:a+xs.length<=256) (h3:a<256):A9E (P7 256 l) a xs=P7 256 (l++zeros (a-l.length)++xs):=by
 unfold A9E;rw [if_pos (by omega)];simp only [E6c];rw [E53 (by omega),B2i h1 h2]
def B89 {b n m:Int} {h:B5} (hm0:0<=m) (hm1:m<18446744073709551616) :
  A3I [.a (D7 b n m)] h=A4 (.t [.a (B4 (bif R7 b n then jY b n m else zeros 256)),.c (.i .i64 (bif R7 b n then 0 else 1))],h):=by
 have key:∀ g,∃ g',B0t 0 [.a (D7 b n m)] g=A4 (.t [.a (B4 (bif R7 b n then jY b n m else zeros 256)),.c (.i .i64 (bif R7 b n then 0 else 1))],g'):=by
  intro g;have hz:(B4 (zeros 256)).length=256:=by rw [A9];exact zeros_length
  have haf:E6 (E5R 256 (Cell.i .u8 0)) []=A4 (E5R 256 (Cell.i .u8 0)):=rfl;rw [I9] at haf;rw [C5l,I9];cases c:R7 b n with
  | false =>
   simp only [cond_false];generalize zeros 256=z at *;exact ⟨_,by simp only [esc,esh,Nat.reduceAdd,cJ,c,haf,hz,Int.reduceEq]<;>rfl⟩
  | true =>
   simp only [cond_true];have e7:E6 [Cell.i .u8 0,.i .u8 0,.i .u8 0,.i .u8 0,.i .u8 0,.i .u8 0,.i .u8 0,.i .u8 0] [(0,1,.c (.i .u8 101)),(1,1,.c (.i .u8 115)),(2,1,.c (.i .u8 99)),(3,1,.c (.i .u8 104)),(4,1,.c (.i .u8 101)),(5,1,.c (.i .u8 97)),(6,1,.c (.i .u8 116)),(7,1,.c (.i .u8 49))]=A4 (B4 magicB):=rfl;have hmk:=D20 (h:=g++[rT (D7 b n m),rT (B4 (zeros 256)),rT (B4 magicB)]) (id:=g.length+2) (off:=0) (len:=8) (sz:=1) (cs:=B4 magicB) (by simp) (by omega);have ho:=B27 (h:=g++[rT (D7 b n m),rT (B4 (zeros 256)),rT (B4 magicB)]) (v:=sV (g.length+2) 0 8 1) (nv:=8) (data:=magicB) (Has.tr (by simp) (by simp [A9,magicB]) (G9 _)) (by decide);rw [C7F (by decide)] at ho;have lm:magicB.length=8:=rfl;have w1:=λh=>Z5 (h:=h) (l:=P7 256 magicB) (I6 (by decide)) (a:=8) (w:=2) (v:=b)
   have e1:=jP (l:=magicB) (a:=8) (w:=2) (v:=b) (by decide) (by omega) (by omega) (by omega);simp only [lm,E6D,show zeros 0=[] from rfl,E6m,E6r] at e1;simp only [e1] at w1;have l1:(magicB++C4 2 b).length=10:=by simp [lm]
   have w2:=λh=>Z5 (h:=h) (l:=P7 256 (magicB++C4 2 b)) (I6 (by omega)) (a:=10) (w:=2) (v:=n)
   have e2:=jP (l:=magicB++C4 2 b) (a:=10) (w:=2) (v:=n) (by omega) (by omega) (by omega) (by omega);simp only [l1,E6D,show zeros 0=[] from rfl,E6m,E6r] at e2;simp only [e2] at w2;have l2:(magicB++C4 2 b++C4 2 n).length=12:=by simp [lm]
   have L0:(B4 (P7 256 magicB)).length=256:=by rw [A9,I6 (by decide)]
   have L1:(B4 (P7 256 (magicB++C4 2 b))).length=256:=by rw [A9,I6 (by omega)]
   have L2:(B4 (P7 256 (magicB++C4 2 b++C4 2 n))).length=256:=by rw [A9,I6 (by omega)]
   have L3:(B4 (P7 256 (cY b n m))).length=256:=by rw [A9,I6 (by rw [T5];omega)]
   have L4:(B4 (jY b n m)).length=256:=by rw [A9,V0]
   have mk8:A2T (iV 8) (iV 8)=A4 8:=rfl;have hp:=D5q (h:=g++[rT (D7 b n m),rT (B4 (zeros 256)),rT (B4 magicB),rT (B4 (P7 256 (magicB++C4 2 b++C4 2 n))),rT (B4 (zeros 8))]) (x:=sV (g.length+4) 0 8 1) (nv:=8) (l:=zeros 8) (a:=0) (w:=8) (v:=m) (Has.tr (by simp) (by simp [A9]) (G9 _)) (by simp);have ep:C37 (zeros 8) 0 8 m=A4 (C4 8 m):=by
    unfold C37;rw [if_pos ⟨by omega,by decide⟩];unfold J7;simp [zeros]
   rw [ep] at hp;simp only [E6z,E6b,Q8] at hp;have hl:=B6n (h:=g++[rT (D7 b n m),rT (B4 (zeros 256)),rT (B4 magicB),rT (B4 (P7 256 (magicB++C4 2 b++C4 2 n))),rT (B4 (zeros 8)),rT (B4 (C4 8 m))]) (v:=sV (g.length+5) 0 8 1) (nv:=8) (data:=C4 8 m) (l:=P7 256 (magicB++C4 2 b++C4 2 n)) (a:=12) (Has.tr (by simp) (by simp [A9]) (G9 _)) (I6 (by omega)) (by simp);have e3:=D9n (l:=magicB++C4 2 b++C4 2 n) (xs:=C4 8 m) (a:=12) (by omega) (by simp) (by omega);simp only [l2,E6D,show zeros 0=[] from rfl,E6m,E6r] at e3;rw [e3] at hl;have hc:=λh=>B6m (h:=h) (l:=P7 256 (cY b n m)) (I6 (by rw [T5];omega)) (a:=0) (n:=20)
   have e4:cV (P7 256 (cY b n m)) 0 20=cY b n m:=by
    unfold cV P7;rw [if_pos (by omega)];simp only [Int.toNat_zero,E6a];exact List.take_left' T5
   simp only [e4,T5] at hc;have E2P:=(Has.tr (h:=g++[rT (D7 b n m),rT (B4 (zeros 256)),rT (B4 magicB),rT (B4 (P7 256 (cY b n m))),rT (B4 (zeros 8)),rT (B4 (C4 8 m)),rT (B4 (cY b n m))]) (id:=g.length+6) (sz:=1) (n:=20) (cs:=B4 (cY b n m)) (by simp) (by rw [A9,T5]) (G9 _)).str;have hmx:=λh=>D0J (s:=cY b n m) (h:=h) (by rw [T5];omega)
   have E45:=C4k (s:=cY b n m);have e5:E5U .i64 ((A0D (cY b n m):Nat):Int)=(A0D (cY b n m):Nat):=wrap_i64 (by omega) (by omega);have w3:=λh=>Z5 (h:=h) (l:=P7 256 (cY b n m)) (I6 (by rw [T5];omega)) (a:=20) (w:=4) (v:=(A0D (cY b n m):Nat))
   have e6:=jP (l:=cY b n m) (a:=20) (w:=4) (v:=(A0D (cY b n m):Nat)) (by rw [T5];omega) (by omega) (by omega) (by omega);simp only [T5,E6D,show zeros 0=[] from rfl,E6m,E6r] at e6;simp only [e6] at w3;have eS:magicB++C4 2 b++C4 2 n++C4 8 m=cY b n m:=rfl;rw [eS] at hl;have rz:=oT 8;change ∀ h,qJ [_,_,_,_] h=A4 (.a (B4 (jY b n m)),h) at w3;generalize jY b n m=SB at *;generalize P7 256 magicB=P0 at *;generalize P7 256 (magicB++C4 2 b)=P1 at *;generalize P7 256 (magicB++C4 2 b++C4 2 n)=P2 at *;generalize P7 256 (cY b n m)=P3 at *;simp only [esc] at hp;generalize zeros 256=z at *;generalize zeros 8=z8 at *;exact ⟨_,by simp only [esc,esh,Nat.reduceAdd,cJ,c,e7,hmk,ho,hz,L0,w1,L1,w2,L2,mk8,rz,hp,hl,L3,hc,E2P,hmx,e5,w3,L4]<;>rfl⟩
 obtain ⟨g',e⟩:=key (ro h);exact C0v e (by simp)
def B7V {b:List UInt8} {a w:Nat} (hb:b.length=256) (h1:a+w<=256) (hw:1<=w) (hw4:w<=4):((atN b a w:Nat):Int)=fieldN b a w:=by
 unfold atN fieldN;rw [if_pos ⟨by omega,O7.2 (by omega)⟩];simp only [E6c]
def D82 {b:List UInt8} (hb:b.length=256):C62 (cV b 12 8) 0 8=A4 (le ((b.drop 12).take 8)):=by
 have hc:cV b 12 8=(b.drop 12).take 8:=by
  unfold cV;rw [if_pos (by omega)];rfl
 have hl:((b.drop 12).take 8).length=8:=by simp;omega
 unfold C62;rw [hc,hl,if_pos ⟨by omega,by decide⟩];simp only [Int.toNat_zero,E6a];rw [E53 (by rw [hl];decide)]
def okS (b:List UInt8):Bool:=R7 (fieldN b 8 2) (fieldN b 10 2)&&decide (jY (fieldN b 8 2) (fieldN b 10 2) (fieldN b 12 8)=b)
def C00 (b:List UInt8):List Cell:=bif okS b then D7 (fieldN b 8 2) (fieldN b 10 2) (fieldN b 12 8) else D7 0 0 0
def A1m (b:List UInt8):0<=fieldN b 12 8/\fieldN b 12 8<18446744073709551616:=by
 unfold fieldN;have h1:=C2D ((b.drop 12).take 8);have h2:((b.drop 12).take 8).length<=8:=by simp;omega
 have h3:=xX h2;have h4:(256:Nat) ^ 8=18446744073709551616:=by decide
 omega
def A8D {b:List UInt8} {h:B5} (hb:b.length=256):A3H [.a (B4 b)] h=A4 (.t [.a (C00 b),.c (.i .i64 (bif okS b then 0 else 13))],h):=by
 have key:∀ g,∃ g',B0s 0 [.a (B4 b)] g=A4 (.t [.a (C00 b),.c (.i .i64 (bif okS b then 0 else 13))],g'):=by
  intro g;have hl:(B4 b).length=256:=by rw [A9,hb]
  have hc:=B6m (h:=g++[rT (B4 b),rT (D7 0 0 0)]) hb (a:=12) (n:=8);have hcl:(cV b 12 8).length=8:=by unfold cV;rw [if_pos (by omega)];simp;omega
  rw [hcl] at hc;have hg:=D5p (h:=g++[rT (B4 b),rT (D7 0 0 0),rT (B4 (cV b 12 8))]) (v:=sV (g.length+2) 0 8 1) (nv:=8) (l:=cV b 12 8) (Has.tr (by simp) (by rw [A9,hcl]) (G9 _)) (a:=0) (w:=8) (by rw [hcl];omega);rw [D82 hb] at hg;simp only [E6z,E6b] at hg;have a1:=λh=>oP (h:=h) hb (a:=8) (w:=2)
  have a2:=λh=>oP (h:=h) hb (a:=10) (w:=2)
  have f1:=B7V (a:=8) (w:=2) hb (by omega) (by omega) (by omega);have f2:=B7V (a:=10) (w:=2) hb (by omega) (by omega) (by omega);simp only [E6r] at f1 f2;simp only [f1] at a1;simp only [f2] at a2;have e12:((le ((b.drop 12).take 8):Nat):Int)=fieldN b 12 8:=rfl;rw [e12] at hg;have ef:∀ x y z:Int,E6 (D7 0 0 0) [(0,1,iV x),(1,1,iV y),(2,1,.c (.i .u64 z))]=A4 (D7 x y z):=λ_ _ _=>rfl
  have ef0:E6 (D7 0 0 0) []=A4 (D7 0 0 0):=rfl;have hp:=λh=>B89 (b:=fieldN b 8 2) (n:=fieldN b 10 2) (m:=fieldN b 12 8) (h:=h) (A1m b).1 (A1m b).2
  have hz:(E5R 256 (Cell.i .u8 0)).length=256:=E6n;have hS:(B4 (jY (fieldN b 8 2) (fieldN b 10 2) (fieldN b 12 8))).length=256:=by rw [A9,V0]
  have hZ:(B4 (zeros 256)).length=256:=by rw [A9];exact zeros_length
  have hq:=D2W (l:=jY (fieldN b 8 2) (fieldN b 10 2) (fieldN b 12 8)) (m:=b) (n:=256) V0 hb;simp only [esc] at hc;rw [C5k];unfold C00 okS;generalize E5R 256 (Cell.i .u8 0)=z at *;cases c:R7 (fieldN b 8 2) (fieldN b 10 2) with
  | false =>
   simp only [c,cond_false] at hp;generalize zeros 256=zz at *;exact ⟨_,by simp only [esc,esh,Nat.reduceAdd,hl,hc,hg,a1,a2,ef,ef0,hp,hz,hZ,E51,Int.reduceEq]<;>rfl⟩
  | true =>
   simp only [c,cond_true] at hp;cases c2:decide (jY (fieldN b 8 2) (fieldN b 10 2) (fieldN b 12 8)=b) with
   | false =>
    rw [c2] at hq;exact ⟨_,by simp only [esc,esh,Nat.reduceAdd,hl,hc,hg,a1,a2,ef,ef0,hp,hz,hS,hq,E6T]<;>rfl⟩
   | true =>
    rw [c2] at hq;exact ⟨_,by simp only [esc,esh,Nat.reduceAdd,hl,hc,hg,a1,a2,ef,ef0,hp,hz,hS,hq,Bool.and_true]<;>rfl⟩
 obtain ⟨g',e⟩:=key (ro h);refine C0u e ?_;unfold C00;cases okS b<;>simp
section
variable (n m m2:Nat) (a0 a1 a2 x2 x3 x6 x7 x8:Val) (h:B5)
def yD:FD A8:=⟨px 0X11b128f11cf2003b1b2058490182714901a271b0190201312b112031c75001e22401b61928889041e1a71e70110127162d4203312b11203042,[.c (.i .u8 0),.c (.i .u8 1)],[],[.tmp 2,.tmp 3,.tmp 4],[]⟩
def B3K:=yD.R
def A5E:=mR B3K yD (tT []) n [a0] h
def A4l:=yD.K Tryz.func191
def pG:=yD.S
def A14:F6 B3K pG:=A4l.flat
def nL:FD A8:=⟨px 0X126e48867c488491c21110132022a1a4c14882d042822e10403c14882d2a280718022a1a7a14882d041d25c10406a14882d583b0718243af390683a026b406202438f2e003f3c2f035d2452820522201301a1ff11ef11df7021a2811828061d2c1cf1a001032c1b0192b291f01d21c61b632e21d753282,[],[],[.cellN 6 256],[E3 pG A4l]⟩
def A7d:=nL.R
def C83:AtH:=nL.lj 0 n [] [x3,x6]
def B7G:=tT [⟨1,2,C83⟩]
def C2V:=mR A7d nL B7G n [a0,a1,a2] h
def C0J:=mJ nL B7G 0 n [] [x3,x6] h
def B6F:=nL.K Tryz.func122
def A7v:=nL.S
def B7i:F6 A7d A7v:=B6F.flat
def nK:FD A8:=⟨px 0X123c48863a488281c2111112321ff18051e0221822e48861b043032812a4881c1c4181bf500441811d31842150307024513401212b4200605110297603291f1d1c20131c4c17421c21b150182,[],[],[.cellN 2 256],[E3 A7v B6F]⟩
def A7c:=nK.R
def B3X:AtH:=nK.lj 0 n [m] [x2,x3,x6,x7,x8]
def B7F:=tT [⟨2,5,B3X⟩]
def C2U:=mR A7c nK B7F n [a0] h
def A5Z:=mL nK B7F 0 n [m] [x2,x3,x6,x7,x8] h
def A6Y:=nK.K Tryz.func57
def A07:=nK.S
def B7h:F6 A7c A07:=A6Y.flat
def A2Z:FD A8:=⟨px 0X12ef40301e192b033f1a041e3f1a3a3f703f1e03e14883f6a2e3f7011e1e01a600001721df11cf11bf5021a2811828061b2c1af180010328190191f1d1b01d2340422e253182,[.c (.i .u8 0)],[],[.tmp 4],[E3 pG A4l]⟩
def A92:=A2Z.R
def C4H:=mR A92 A2Z (tT []) n [a0,a1] h
def C1g:=A2Z.K Tryz.func126
def B0B:=A2Z.S
def B9R:F6 A92 B0B:=C1g.flat
end
section
variable (n m m2:Nat) (a0 x1 x2 x3 x4 x6 x7 x8 x17 x33 x34 x44 x45:Val) (h:B5)
def yK:FD A8:=⟨px 0X118f20306197ffffd0191b1a71b701104261700523201042,[],[],[.tmp 2],[]⟩
def B3M:=yK.R
def B9G:=mR B3M yK (tT []) n [a0] h
def B3F:=yK.K Tryz.func247
def A4X:=yK.S
def B5H:F6 B3M A4X:=B3F.flat
def dB:FD A8:=⟨px 0X124a76487182112022a393e172d041a3e282b4222202321ff18051e02218022a42e172d281281c04181bf11af4061867a414181a1821503070245133901212b420060511061841a62b3291f18203394c1742394c03a253182,[],[],[.cellN 2 7],[]⟩
def A0s:=dB.R
def A6s:AtH:=dB.lj 0 n [m] [x1,x2,x3,x7,x8]
def A8S:=tT [⟨2,5,A6s⟩]
def B48:=mR A0s dB A8S n [a0] h
def A0N:=mL dB A8S 0 n [m] [x1,x2,x3,x7,x8] h
def pR:=dB.K Tryz.func125
def dC:=dB.S
def B0V:F6 A0s dC:=pR.flat
def jL:FD A8:=⟨px 0X11201026bf5d051c06b4921801520150000722403f01034f68031cd0525ff404677a219421503070242133d01211bd42006051101131f1b5b1c31bb1b9182013015201500622401b181949c8890519c1a019c1e21f19c1f0101b181910118a1a018a1e21f18a1f0101b1a1906e4d0106e2f06e1e36e6e1f0103f01030415c2f2b2c1ad422053015201500622401b2a1930183a7b04b4e03b4b6d4a1b4b3c03a71023a1a03a1e03a3a1f0101b18191905281a0281e028281f0110120401852b2a5d42031103a2342,[],[.eqA A5 ([.i .i64,.i .i64,.i .i64,.i .i64,.i .i64,.i .i64,.i .i64,.i .i64,.i .i64,.i .i64,.i .i64]) (.t 18) (.t 19)],[.tmp 2],[E3 A4X B3F,E3 dC pR]⟩
def A4D:=jL.R
def B13:AtH:=jL.lj 0 n [m] [x44,x45]
def B3S:=tT [⟨2,2,B13⟩]
def B9E:=mR A4D jL B3S n [a0] h
def A36:=mL jL B3S 0 n [m] [x44,x45] h
def B3D:=jL.K Tryz.func230
def A4V:=jL.S
def B5F:F6 A4D A4V:=B3D.flat
def gK:FD A8:=⟨px 0X113022f4864f486e1c3711111726df5d052802218022a184f1482d0406f14882d1a8119e6806185ff1904122b4235032702441328901211bd420162515d011bb78182222222335cf4a052c0221826f488601941a41318c105902019627f16f4884e1c7184df14cf7061877a4146e781821503070245133d012118f42006051101237e1b18318d18b18201326a48860194964130437855c4881850225a48860292964130426854c4881850224a48860191964130415853c4881850223a488605164130404852c488281c5021c61b11d19411d2011ff3003a4862c12c48184711101722410321e1c023b421bf5001032a1b1a1c31b42031d4c11942111d4c03a353182,[],[],[.cellN 2 32,.tmp 3],[E3 A4V B3D,E3 qJ A1Q,E3 dC pR]⟩
def B0m:=gK.R
def B8w:AtH:=gK.lj 0 n [m] [x2,x4,x6,x33,x34]
def B8x:AtH:=gK.lj 1 n [m] [x2,x4,x6,x45]
def B07:=tT [⟨2,5,B8w⟩,⟨2,4,B8x⟩]
def C5c:=mR B0m gK B07 n [a0] h
def A9g:=mL gK B07 0 n [m] [x2,x4,x6,x33,x34] h
def A9h:=mL gK B07 1 n [m] [x2,x4,x6,x45] h
def A9T:=gK.K Tryz.func189
def A3D:=gK.S
def C0k:F6 B0m A3D:=A9T.flat
def qY:FD A8:=⟨px 0X127c1b6781b182112022a1a6e5191b903136c4883d1c42210323cf29052e02218422a1e0162d45c51901831305902019624a14c488183e2c019182bf504123a421503070244133901214d4200605129014b420328f21b613b045a0136121a111e1043b3b194903132e48818292903132a48818191903131e488185103131a488181c1a11919437f248861c31b0103067d470523b4c03a253182,[],[.slA 32 1 (.t 1) A7 A7],[.cellN 2 11],[E3 A5Q A9W,E3 zP A5C]⟩
def B0l:=qY.R
def B8u:AtH:=qY.lj 0 n [m] [x2,x3,x4,x17]
def C1T:=tT [⟨2,4,B8u⟩]
def C5b:=mR B0l qY C1T n [a0] h
def A9f:=mL qY C1T 0 n [m] [x2,x3,x4,x17] h
def C1u:=qY.K Tryz.func200
def B0U:=qY.S
def C0j:F6 B0l B0U:=C1u.flat
def yJ:FD A8:=⟨px 0X11b302581b64c1b2e1c3020133024e1b603b3b3711622401b18190484e4a48483c3848483c011032281e07592200721df11cf24861d51b11828061c2c1bf19001131c1b1a1c181d1b61c201318f21b63b41b01031c4871c41942313b4c03a353182,[],[.eqA A5 (E5R 32 (.i .u8)) (.t 17) (.t 18)],[.cellN 2 11,.tmp 3],[E3 B0U C1u,E3 A3D A9T]⟩
def A4E:=yJ.R
def B9F:=mR A4E yJ (tT []) n [a0] h
def B3E:=yJ.K Tryz.func144
def A4W:=yJ.S
def B5G:F6 A4E A4W:=B3E.flat
def sM:FD A8:=⟨px 0X11cf20288901a25072288900271905020118b9201500622418f6049c88905277031d401921120120062245f305012740374205031201042,[],[],[.tmp 2],[]⟩
def B0k:=sM.R
def B67:=mR B0k sM (tT []) n [a0] h
def A9S:=sM.K Tryz.func94
def A2e:=sM.S
def B3p:F6 B0k A2e:=A9S.flat
end
section
variable (n m m2:Nat) (a0 a1 x2 x3 x4 x12 x13 x14:Val) (h:B5)
def yM:FD A8:=⟨px 0X1120102011920150522401b1c190654c1a0288974c1a4c4c704c1e04c4c1f0101b18191013a1a03a1e03a3a1f0101b6192889052a1a1e2a701501218702a694200236f30029041642b47421103a2342,[],[],[.tmp 2],[]⟩
def A4G:=yM.R
def B9M:=mR A4G yM (tT []) n [a0] h
def B3H:=yM.K Tryz.func190
def A4Z:=yM.S
def B5K:F6 A4G A4Z:=B3H.flat
def rB:FD A8:=⟨px 0X125c4886684883a1c2111110043239f1e052e02218022a45c14882d4a10402481040482b2b7182af128f500461a11d4152a2c182150307024613401213f42006051102904128543d3b3972825430121c488628488182100032241032010318271c32b42031c4c43a422e319751c2,[],[],[.cellN 4 256],[E3 A4Z B3H]⟩
def B0q:=rB.R
def B8U:AtH:=rB.lj 0 n [m] [x2,x3,x4,x12,x13,x14]
def C1V:=tT [⟨2,6,B8U⟩]
def C5j:=mR B0q rB C1V n [a0,a1] h
def A9n:=mL rB C1V 0 n [m] [x2,x3,x4,x12,x13,x14] h
def A9X:=rB.K Tryz.func121
def A3G:=rB.S
def C5W:SOk A8 121 A3G:=A9X.sok
def C0s:F6 B0q A3G:=A9X.flat
end
section
variable (n m m2:Nat) (a0 a1 a2 x1 x2 x4 x5 x14:Val) (h:B5)
def yO:FD A8:=⟨px 0X115026a26011181022d3b0413903800013e28906273801802012ff5004e2648102d3b44811101722410323a2c025b01823132bf12af24861d61b11828062a2c29f1f001033a1b281c181f1d111d201195022c2602d3b3281000722401b61949042c1a72c7011012718063b4203112d4c432e319701c2,[],[.slA 32 1 (.t 6) A7 A7],[.cellN 4 2,.tmp 5],[E3 A3D A9T]⟩
def A4J:=yO.R
def B9P:=mR A4J yO (tT []) n [a0,a1] h
def B3J:=yO.K Tryz.func120
def A42:=yO.S
def B5M:D5X A4J A42:=B3J.tidy
def A01:FD A8:=⟨px 0X11702484886042133a2184a4882c1c502012bf7003a48862c13e4881842c11101722410321e28024b01823131ff11ef2262d181b11a280181e2c1df1a0042031e1b182c1b0192b29101a2111c4c652e632e41d1b73282,[],[],[.cellN 6 256,.tmp 7],[E3 A42 B3J,cal C5W]⟩
def A7s:=A01.R
def C3j:=mR A7s A01 (tT []) n [a0,a1,a2] h
def A68:=A01.K Tryz.func55
def tO:=A01.S
def B7E:F6 A7s tO:=A68.flat
def rC:FD A8:=⟨px 0X125c4865a483a1c21110023239f1e052e02218022a1e4e1482d0405814882d04023c12890624a12e290191828f604122a4215030702451328901213f42006051113d531c228430122a486284818211001322401b61949042a1a2a2a70110121c7063942031d4c11b421d41b422e219531c2,[],[],[.cellN 4 32],[]⟩
def B0v:=rC.R
def B9a:AtH:=rC.lj 0 n [m] [x1,x2,x4,x5,x14]
def C1W:=tT [⟨2,5,B9a⟩]
def C5n:=mR B0v rC C1W n [a0,a1] h
def A9s:=mL rC C1W 0 n [m] [x1,x2,x4,x5,x14] h
def C1y:=rC.K Tryz.func145
def B0Z:=rC.S
def C0x:F6 B0v B0Z:=C1y.flat
def A3e:FD A8:=⟨px 0X12af5003c1b6142800280113042033a12e4881d1c1802013502281b603b3b31c1000722401b6194904281a282870110121a162f4203313b41b422e319531c2,[],[],[.cellN 4 11,.tmp 5],[E3 B0Z C1y,E3 A4W B3E]⟩
def B0u:=A3e.R
def C5m:=mR B0u A3e (tT []) n [a0,a1] h
def C1x:=A3e.K Tryz.func77
def B0Y:=A3e.S
def C0w:F6 B0u B0Y:=C1x.flat
end
section
variable (n m m2:Nat) (a0 a1 x1 x3 x14 x15:Val) (h:B5)
def B2K:FD A8:=⟨px 0X113027e4601343022e3b6c1595e6e33f1c5611623ef22a261b0448839710004883c5d51d191192016d3026a4602e3b371100722401b1c19063581a0584b75870581e04a581f0110323a2a0196d4231329f128f2362a41b11c2801a282c1ff1b00103048818104881d71c01a1b19611d2016d302284602e3b37106224102202977032b4203112e21b250182,[],[],[.cellN 2 4,.tmp 3],[E3 A3H A90]⟩
def C90:=B2K.R
def A06:=mR C90 B2K (tT []) n [a0] h
def B9j:=B2K.K Tryz.func12
def wS:=B2K.Q
def A1f:OfT C90 wS:=B9j.of
def kE:FD A8:=⟨px 0X12af40301c190181391a0391e00391f038391f383970130619104291a2829701038043651f00062340422e253182,[],[.eqN A5 A5 (.t 6)],[.tmp 4],[]⟩
def tB:=kE.R
def B0y:=mR tB kE (tT []) n [a0,a1] h
def A3n:=kE.K Tryz.func146
def tR:=kE.S
def A7T:F6 tB tR:=A3n.flat
def A3f:FD A8:=⟨px 0X12184886048818044881d7164500221c31b17301c2,[],[],[.cellN 3 256],[]⟩
def B0w:=A3f.R
def C5o:=mR B0w A3f (tT []) n [a0,a1] h
def C1z:=A3f.K Tryz.func41
def A3J:=A3f.S
def C0y:F6 B0w A3J:=C1z.flat
def U6:FD A8:=⟨px 0X122a48860145f2e10432855020121a488601c3b21000322403f042031a1641842942031c41b422e219531c2,[],[],[.cellN 4 256],[E3 tR A3n,E3 A3J C1z]⟩
def fK:=U6.R
def qR:O3:=U6.E
def A5R:TT:=⟨qR,[]⟩
def A11:=mR fK U6 A5R n [a0,a1] h
def L7:=U6.K Tryz.func78
def J3:=U6.S
def A0u:F6 fK J3:=L7.flat
def kD:FD A8:=⟨px 0X126a1b65a1b3d1c21123cf13bf21b63b181b11e2801c3b2c3af2d0042234e1042134c15842e1c1b3842012481b603b3b211101322403f2e2a024f4241329f128f11ff5021e2811c2801a1f2c1ef1a004203381031802a1b2b1b1f1d1b01d23b41b422e219531c2,[],[],[.cellN 4 11],[E3 A1b A64,E3 J3 L7,E3 B0Y C1x]⟩
def kF:=kD.R
def zL:=mR kF kD (tT []) n [a0,a1] h
def aC:=kD.K Tryz.func35
def T4:=kD.S
def tQ:F6 kF T4:=aC.flat
def aA:FD A8:=⟨px 0X139f205c390250000027238f1f052a02218024886181a4881d042134a14e4183e13e2a071829f40412384215030702441340121494200605110292c1d033f3d41c20131cf30004881c6b04005028192b5720192014882481500622410320103031801852b42942034884a03a2342,[],[],[.tmp 2],[E3 dY jM,E3 J3 L7]⟩
def tA:=aA.R
def A2N:AtH:=aA.lj 0 n [m] [x1,x3,x14,x15]
def A3N:=tT [⟨2,4,A2N⟩]
def B0x:=mR tA aA A3N n [a0] h
def vT:=mL aA A3N 0 n [m] [x1,x3,x14,x15] h
def A3m:=aA.K Tryz.func51
def tP:=aA.S
def A9y:pY tA tP:=A3m.out
def nW:FD A8:=⟨px 0X13af40301c190423592f35e5970422592f01592f4e4593c01301c1901813b1a03b1e003b1f03a3b1f3a3b701306191042b1a2a2b7011022010303180652c01900063340422e253182,[],[],[.tmp 4],[E3 dY jM,E3 wR A1O,E3 J3 L7,E3 B0B C1g]⟩
def wO:=nW.R
def B3i:=mR wO nW (tT []) n [a0,a1] h
def A5D:=nW.K Tryz.func62
def wU:=nW.S
def A9z:F6 wO wU:=A5D.flat
end
def IsView (h:B5) (f:Cell) (D:Dev):Prop:=∃ r q rw rw',f=.f 41 [(r,0)]/\rd h r=A4 ⟨[.sl q 0 D.length 256],rw⟩/\rd h q=A4 ⟨D5 D,rw'⟩
def IsView.ro {h:B5} {f:Cell} {D:Dev} (hv:IsView h f D):IsView (ro h) f D:=by
 obtain ⟨r,q,rw,rw',e,h1,h2⟩:=hv;exact ⟨r,q,A6,A6,e,B8Z h1 rfl,B8Z h2 (eZ D)⟩
def IsView.more {h:B5} {f:Cell} {D:Dev} (hv:IsView h f D) (l:B5):IsView (h++l) f D:=by
 obtain ⟨r,q,rw,rw',e,h1,h2⟩:=hv;exact ⟨r,q,rw,rw',e,C5 h1,C5 h2⟩
def IsView.since {g h:B5} {f:Cell} {D:Dev} (hv:IsView g f D) (h1:Low g.length g h):IsView h f D:=by
 obtain ⟨r,q,rw,rw',e,h2,h3⟩:=hv;exact ⟨r,q,rw,rw',e,h1.rd h2,h1.rd h3⟩
def IsView.get {h:B5} {f:Cell} {D:Dev} (hv:IsView h f D):∃ id cs,f=.f id cs:=by
 obtain ⟨r,q,rw,rw',e,_⟩:=hv;exact ⟨_,_,e⟩
def vwC (b n m:Int) (f:Cell):List Cell:=[.i .i64 b,.i .i64 n,.i .u64 m,f]
section
variable {D:Dev} {n m:Int} {f:Cell}
def D4D {b:Int}:ldN (rT (vwC b n m f)) 0 3=A4 (.a (D7 b n m)):=rfl
def E0m {b:Int}:ldN (rT (vwC b n m f)) 0 4=A4 (.a (vwC b n m f)):=rfl
end
def D2D {h:B5} {r q:Nat} {rw rw':Bool} {D:Dev} {no:Nat} (hD:okD D) (cU:no<D.length) (h1:rd h r=A4 ⟨[.sl q 0 D.length 256],rw⟩) (h2:rd h q=A4 ⟨D5 D,rw'⟩) :
  A3J [iV (no:Int),pV r 0] h=A4 (.a (B4 D[no]),h):=by
 have key:∀ g rw rw',rd g r=A4 ⟨[.sl q 0 D.length 256],rw⟩->rd g q=A4 ⟨D5 D,rw'⟩->∃ g',B0w 0 [iV (no:Int),pV r 0] g=A4 (.a (B4 D[no]),g'):=by
  intro g rw rw' h1 h2;have hz:(E5R 256 (Cell.i .u8 0)).length=256:=E6n;have hB:(B4 D[no]).length=256:=by rw [A9,hD.at cU]
  have l1:B8 (g++[rT (E5R 256 (.i .u8 0))]) (pV r 0)=A4 (sV q 0 D.length 256):=B9 (cs:=[.sl q 0 D.length 256]) (C5 h1) rfl (by cases rw<;>rfl);have a1:D9 256 (sV q 0 D.length 256) (iV (no:Int))=A4 (pV q (0+no*256)):=C9 cU;have l2:D4 (g++[rT (E5R 256 (.i .u8 0))]) 256 (pV q (0+no*256))=A4 (.a (B4 D[no])):=by
   rw [dR (cs:=D5 D) (rw:=rw') (C5 h2) (by rw [J4 hD];omega) (by
    rw [E6e,dD hD cU,G9];simp),E6e,dD hD cU]
  rw [E6e] at a1 l2;rw [C5o];generalize E5R 256 (Cell.i .u8 0)=z at *;generalize B4 D[no]=y at *;exact ⟨_,by simp only [esc,esh,l1,a1,l2,hz,hB]<;>rfl⟩
 obtain ⟨g',e⟩:=key (ro h) A6 A6 (B8Z h1 rfl) (B8Z h2 (eZ D));exact C0y e (by simp [Val.flat])
def C9K {b n m no:Int} {f:Nat} {cs:List (Nat × Nat)} {h:B5}:tR [.a (vwC b n m (.f f cs)),iV no] h=A4 (bV (decide (0<=no)&&decide (no<b)),h):=by
 have key:∀ g,∃ g',tB 0 [.a (vwC b n m (.f f cs)),iV no] g=A4 (bV (decide (0<=no)&&decide (no<b)),g'):=by
  intro g;rw [B0y];unfold vwC;by_cases c1:0<=no
  ·exact ⟨_,by simp only [esc,esh,c1]<;>rfl⟩
  ·exact ⟨_,by simp only [esc,esh,c1,E51]<;>rfl⟩
 obtain ⟨g',e⟩:=key (ro h);exact A7T e rfl
def bP {n m no:Int} {f:Cell} {D:Dev} {h:B5} (hD:okD D) (hv:IsView h f D):J3 [.a (vwC D.length n m f),iV no] h=A4 (.a (B4 (blk D no)),h):=by
 have key:∀ g,IsView g f D->∃ g',fK 0 [.a (vwC D.length n m f),iV no] g=A4 (.a (B4 (blk D no)),g'):=by
  intro g hv;have hz:(B4 (zeros 256)).length=256:=by rw [A9];exact zeros_length
  have hB:(B4 (blk D no)).length=256:=by rw [A9,O9 hD]
  obtain ⟨r,q,rw',rw'',rfl,h1,h2⟩:=hv;have hT:=λh=>C9K (b:=D.length) (n:=n) (m:=m) (no:=no) (f:=41) (cs:=[(r,0)]) (h:=h)
  have hcv:∀ (x:Val) (h:B5),A3R qR (.c (.f 41 [(r,0)])) [x] h=A3J [x,pV r 0] h:=λ_ _=>Eq.trans rfl rfl
  rw [A11,I9];by_cases c1:0<=no/\no<D.length
  ·have c2:=c1.1;have c3:=c1.2;obtain ⟨k,rfl⟩:∃ k:Nat,no=k:=⟨no.toNat,by omega⟩;have e1:=B5Z (D:=D) (i:=k) (by omega);have hO:=D2D (h:=g++[rT (vwC D.length n m (.f 41 [(r,0)])),rT (B4 (zeros 256))]) hD (show k<D.length by omega) (C5 h1) (C5 h2);rw [<-e1] at hO;simp only [c2,c3,decide_true,Bool.and_self] at hT;generalize B4 (zeros 256)=z at *;generalize B4 (blk D k)=y at *;unfold vwC at *;exact ⟨_,by simp only [esc,esh,Nat.reduceAdd,hT,hcv,hO,hz,hB]<;>rfl⟩
  ·have e1:=D3g (D:=D) (i:=no) (by omega);have ht:(decide (0<=no)&&decide (no<(D.length:Int)))=A6:=by
    rw [Bool.and_eq_false_iff,decide_eq_false_iff_not,decide_eq_false_iff_not];omega
   simp only [ht] at hT;rw [e1] at hB ⊢;have ef:E6 (B4 (zeros 256)) []=A4 (B4 (zeros 256)):=rfl;generalize B4 (zeros 256)=z at *;unfold vwC at *;exact ⟨_,by simp only [esc,esh,Nat.reduceAdd,hT,ef,hz]<;>rfl⟩
 obtain ⟨g',e⟩:=key (ro h) hv.ro;exact A0u e (by simp [Val.flat])
def E0D {h:B5} {id m sz:Nat} {ys:List Cell} {y:Val} (hr:rd h id=rT []) (hy:Has h y sz m ys) (hsz:0<sz) (hn:m<=1073741824) :
  kV h sz (sV id 0 0 sz) y=A4 (sV h.length 0 m sz,h.set id A7++[rT ys]):=by
 have h1:=hy.add;have h2:ys.length/sz=m:=by rw [hy.length];exact Nat.mul_div_cancel m hsz
 simp only [kV,h1,hr,E54,h2,E59,E6e];rw [if_pos ⟨trivial,trivial,by simp,trivial,hn⟩]
def A2U (D:Dev):Bool:=okS (D.headD [])&&decide (fieldN (D.headD []) 8 2=D.length)
def A76 (D:Dev):Int:=fieldN (D.headD []) 10 2
def D3w (D:Dev):Int:=fieldN (D.headD []) 12 8
def D4C {v:Val} {h:B5} (hv:Has h v 256 0 []):∃ t,wS [v] h=A4 (.t [.a (vwC 0 0 0 .nf),.c (.i .i64 13)],h++t):=by
 have ef:E6 [o0,o0,.i .u64 0,.nf] []=A4 [o0,o0,.i .u64 0,.nf]:=rfl;have hl:=hv.len;rw [show ((0:Nat):Int)=0 from rfl] at hl;exact ⟨_,A1f (n:=0) (by rw [A06];simp only [esc,esh,Nat.reduceAdd,hl,ef,vwC]<;>rfl)⟩
def D6n {b:List UInt8} (h:okS b=A6):C00 b=D7 0 0 0:=by unfold C00;rw [h];rfl
def D13 {b:List UInt8} (h:okS b=A5):C00 b=D7 (fieldN b 8 2) (fieldN b 10 2) (fieldN b 12 8):=by unfold C00;rw [h];rfl
def D5R {v:Val} {D:Dev} {h:B5} (hv:Has h v 256 D.length (D5 D)) (hD:okD D) (h0:0<D.length) (hn:A2U D=A6):∃ t,wS [v] h=A4 (.t [.a (vwC 0 0 0 .nf),.c (.i .i64 13)],h++t):=by
 have ef:E6 [o0,o0,.i .u64 0,.nf] []=A4 [o0,o0,.i .u64 0,.nf]:=rfl;have hl:=hv.len;have hv2:=hv.more [rT [o0,o0,.i .u64 0,.nf]];obtain ⟨b,E,rfl⟩:∃ b E,D=b::E:=by cases D with | nil=>simp at h0 | cons b E=>exact ⟨b,E,rfl⟩
 obtain ⟨id,off,rfl,hid,_,hB⟩:=hv2.sl h0;have hBl:(B4 b).length=256:=by rw [A9,hD.cons.1]
 have l2:=hB 0 256 (by rw [J4 hD];omega);have ec:((D5 (b::E)).drop 0).take 256=B4 b:=by
  have:=dD (i:=0) hD h0
  rwa [Nat.zero_mul] at this
 rw [ec,E6E] at l2;have a1:D9 256 (sV id off (b::E).length 256) (iV 0)=A4 (pV id off):=by
  have:=C9 (k:=.i64) (id:=id) (off:=off) (sz:=256) (j:=0) (len:=(b::E).length) h0
  rwa [Nat.zero_mul,E6E] at this
 have hG:=λh=>A8D (h:=h) hD.cons.1
 have c0:¬ (((b::E).length:Nat):Int)=0:=by omega
 have n13:¬ (13:Int)=0:=by decide
 unfold A2U at hn;simp only [List.headD_cons] at hn;cases ho:okS b with
 | false =>
  simp only [ho,D6n ho,cond_false] at hG;refine ⟨[rT [o0,o0,.i .u64 0,.nf],rT [o0,o0,.i .u64 0]],A1f (n:=0) ?_⟩;rw [A06];generalize (b::E).length=N at *;generalize B4 b=y at *;unfold D7 at *;simp only [esc,esh,Nat.reduceAdd,ef,vwC,l2,a1,hG,n13,eq_self,c0]<;>rfl
 | true =>
  rw [ho,E55] at hn
  replace hn:=of_decide_eq_false hn
  simp only [ho,D13 ho,cond_true] at hG;refine ⟨[rT [o0,o0,.i .u64 0,.nf],rT [.i .i64 (fieldN b 8 2),.i .i64 (fieldN b 10 2),.i .u64 (fieldN b 12 8)]],A1f (n:=0) ?_⟩;rw [A06];generalize (b::E).length=N at *;generalize B4 b=y at *;generalize fieldN b 8 2=n1 at *;unfold D7 at *;simp only [esc,esh,Nat.reduceAdd,ef,vwC,l2,a1,hG,eq_self,c0,hn]<;>rfl
def D4B {v:Val} {D:Dev} {h:B5} (hv:Has h v 256 D.length (D5 D)) (hD:okD D) (hn:A2U D=A6):∃ t,wS [v] h=A4 (.t [.a (vwC 0 0 0 .nf),.c (.i .i64 13)],h++t):=by
 by_cases h0:D=[]
 ·subst h0;exact D4C hv
 ·exact D5R hv hD (List.length_pos_iff.2 h0) hn
def C8j {v:Val} {D:Dev} {h:B5} (hv:Has h v 256 D.length (D5 D)) (hD:okD D) (hn:A2U D=A5) (h60:D.length<=1073741824) :
  ∃ f t,wS [v] h=A4 (.t [.a (vwC D.length (A76 D) (D3w D) f),.c o0],h++t)/\IsView (h++t) f D:=by
 obtain ⟨b,E,rfl⟩:∃ b E,D=b::E:=by
  cases D with
  | nil=>simp only [A2U,List.headD_nil,E6h,E5S] at hn;exact absurd hn.1 (by decide)
  | cons b E=>exact ⟨b,E,rfl⟩
 have h0:0<(b::E).length:=by simp
 have hv2:=hv.more [rT [o0,o0,.i .u64 0,.nf]];unfold A2U at hn;simp only [List.headD_cons,E5S] at hn;have ho:=hn.1;have hn2:=of_decide_eq_true hn.2;have hv3:=hv.more [rT [o0,o0,.i .u64 0,.nf],rT (D7 (b::E).length (fieldN b 10 2) (fieldN b 12 8)),rT []];obtain ⟨id,off,rfl,hid,_,hB⟩:=hv2.sl h0;have hBl:(B4 b).length=256:=by rw [A9,hD.cons.1]
 have l2:=hB 0 256 (by rw [J4 hD];omega);have ec:((D5 (b::E)).drop 0).take 256=B4 b:=by
  have:=dD (i:=0) hD h0
  rwa [Nat.zero_mul] at this
 rw [ec,E6E] at l2;have a1:D9 256 (sV id off (b::E).length 256) (iV 0)=A4 (pV id off):=by
  have:=C9 (k:=.i64) (id:=id) (off:=off) (sz:=256) (j:=0) (len:=(b::E).length) h0
  rwa [Nat.zero_mul,E6E] at this
 have hG:=λh=>A8D (h:=h) hD.cons.1
 have c0:¬ (((b::E).length:Nat):Int)=0:=by omega
 have n13:¬ (13:Int)=0:=by decide
 simp only [ho,D13 ho,cond_true,hn2] at hG;have eN:A76 (b::E)=fieldN b 10 2:=rfl;have eM:D3w (b::E)=fieldN b 12 8:=rfl;have hA:=E0D (id:=h.length+2) (by simp) hv3 (by omega) h60;have ef1:E6 ([]:List Cell) []=A4 []:=rfl;have V7:id<h.length:=by
  rcases hv with ⟨e,_⟩ | ⟨i,o,r,e,hr,_⟩
  ·cases e
  ·cases e;exact C8 hr
 rw [eN,eM];unfold IsView;generalize D5 (b::E)=C at *;have emk:B5U 41 [pV (h.length+4) 0]=A4 (.c (.f 41 [(h.length+4,0)])):=rfl;refine ⟨.f 41 [(h.length+4,0)],[rT (vwC (b::E).length (fieldN b 10 2) (fieldN b 12 8) (.f 41 [(h.length+4,0)])),rT (D7 (b::E).length (fieldN b 10 2) (fieldN b 12 8)),A7,rT C,rT [.sl (h.length+3) 0 (b::E).length 256]],A1f (n:=0) ?_,h.length+4,h.length+3,A5,A5,rfl,K9,K9⟩;rw [A06];generalize (b::E).length=N at *;generalize B4 b=y at *;generalize fieldN b 10 2=n1 at *;generalize fieldN b 12 8=n2 at *;have ef2:∀ x,E6 [o0,o0,.i .u64 0,.nf] [(0,3,.a [.i .i64 (N:Int),.i .i64 n1,.i .u64 n2]),(3,1,.c x)]=A4 [.i .i64 (N:Int),.i .i64 n1,.i .u64 n2,x]:=λ_=>rfl
 unfold D7 vwC at *;simp only [esc,esh,Nat.reduceAdd] at hA;simp only [esc,esh,Nat.reduceAdd,Nat.reduceLT,l2,a1,hG,eq_self,c0,hA,ef1,ef2,emk]<;>rfl
section
variable (n m m2:Nat) (a0 a1:Val) (h:B5)
def sN:FD A8:=⟨px 0X118f20306191889011b1a71b701104261700523201042,[],[],[.tmp 2],[]⟩
def A10:=sN.R
def B69:=mR A10 sN (tT []) n [a0] h
def A9Y:=sN.K Tryz.func198
def A2f:=sN.S
def B3q:F6 A10 A2f:=A9Y.flat
def A00:FD A8:=⟨px 0X11bf401906313019622811c488181c50201140160000722403f010318131f4203140422e253182,[],[],[.tmp 4],[E3 A2f A9Y,E3 zP A5C]⟩
def A7r:=A00.R
def C3i:=mR A7r A00 (tT []) n [a0,a1] h
def B6S:=A00.K Tryz.func142
def A7S:=A00.S
def C3U:SOk A8 142 A7S:=B6S.sok
def B7C:F6 A7r A7S:=B6S.flat
end
def pA (d:List Int):List UInt8:=(d.map (C4 2)).flatten
def B8O {d:List Int}:(pA d).length=2*d.length:=by
 induction d with
 | nil=>rfl
 | cons x d ih=>simp only [pA,E6X,List.flatten_cons,E5T,Q8,E52] at ih ⊢;omega
def C7E {d:List Int} {x:Int}:pA (d++[x])=pA d++C4 2 x:=by simp [pA]
def ptP (b:List UInt8) (i:Nat):Int:=fieldN b (2*i) 2
def D7M (b:List UInt8) (i:Nat):0<=ptP b i/\ptP b i<65536:=by
 unfold ptP fieldN;have h1:=C2D ((b.drop (2*i)).take 2);have h2:((b.drop (2*i)).take 2).length<=2:=by simp;omega
 have h3:=xX h2;have h4:(256:Nat) ^ 2=65536:=by decide
 omega
def C36 {k:Nat} {h:B5} (hk:k<128):A2f [iV k] h=A4 (bV A5,h):=by
 have key:∀ g,∃ g',A10 0 [iV k] g=A4 (bV A5,g'):=by
  intro g;have c1:(0:Int)<=k:=by omega
  have c2:(k:Int)<128:=by omega
  rw [B69];exact ⟨_,by simp only [esc,c1,c2]<;>rfl⟩
 obtain ⟨g',e⟩:=key (ro h);exact B3q e rfl
def E1W {b:List UInt8} {i:Nat} (hb:b.length=256) (hi:i<128):((atN b ((2*i:Nat):Int) 2:Nat):Int)=ptP b i:=by
 unfold atN ptP fieldN;rw [if_pos ⟨by omega,O7.2 (by omega)⟩];simp only [E6c];rfl
def D5S {i:Nat} (hi:i<128):E5U .i64 (2*(i:Int))=((2*i:Nat):Int):=by rw [wrap_i64 (by omega) (by omega)];omega
def C9z {b:List UInt8} {k:Nat} {h:B5} (hb:b.length=256) (hk:k<128):A7S [.a (B4 b),iV k] h=A4 (iV (ptP b k),h):=by
 have key:∀ g,∃ g',A7r 0 [.a (B4 b),iV k] g=A4 (iV (ptP b k),g'):=by
  intro g;have hB:(B4 b).length=256:=by rw [A9,hb]
  have hT:=λh=>C36 (h:=h) hk
  have hA:=λh=>oP (h:=h) hb (a:=((2*k:Nat):Int)) (w:=2)
  rw [E1W hb hk] at hA;rw [C3i];exact ⟨_,by simp only [esc,esh,hB,hT,D5S hk,hA]<;>rfl⟩
 obtain ⟨g',e⟩:=key (ro h);exact B7C e rfl
def zI (n:Nat):List Int:=E5R n 0
def J6 {n:Nat}:(zI n).length=n:=by simp [zI]
abbrev F9 (k l s p:Int) (d:List Int):List Cell:=.i .i64 k::.i .i64 l::.i .i64 s::.i .i64 p::encI d
def O0 (n:Int):Bool:=decide (0<=n)&&decide (n<=65535)
def B2y {n:Int}:O0 n=A5↔0<=n/\n<=65535:=by unfold O0;simp
def Z3 {n:Int} {h:B5}:A4X [iV n] h=A4 (bV (O0 n),h):=by
 refine B5H (n:=0) (h2:=ro h) ?_ rfl;rw [B9G];unfold O0;by_cases c:0<=n
 ·simp only [esc,c,E55]
 ·simp only [esc,c,E51]
def C33 {n:Int} {h:B5}:A2e [iV n] h=A4 (iV (if n<1 then 0 else if 34304<n then 134 else (n+255)/256),h):=by
 refine B3p (n:=0) (h2:=ro h) ?_ rfl;rw [B67];by_cases c1:n<1
 ·rw [if_pos c1];simp only [esc,c1]
 ·rw [if_neg c1];by_cases c2:34304<n
  ·rw [if_pos c2];simp only [esc,c1,c2]
  ·rw [if_neg c2];have e1:E5U .i64 (n+256)=n+256:=wrap_i64 (by omega) (by omega);have e2:E5U .i64 (n+256-1)=n+255:=by rw [wrap_i64 (by omega) (by omega)];omega
   simp only [esc,c1,c2,e1,e2,uQ (a:=n+255) (b:=256) (by omega) (by omega) (by omega)]
def B8N {g:B5} {k l s p:Int} {d:List Int} {z:List Cell} {q:Nat} (hd:d.length=7) (hz:z.length=7):∀ e i m:Nat,i+e=6->e<m ->
  A6s q m (pV g.length 0) (pV (g.length+1) 0) (pV (g.length+2) 0) (.a (encI (d.take 6))) (iV i) (g++[rT (F9 k l s p d),rT z,rT (encI (d.take i++zI (7-i)))]) =
   A4 (.a (encI d),g++[rT (F9 k l s p d),rT (encI d),rT (encI d)])
 | e,i,0,_,hm=>by omega
 | 0,i,m+1,hi,hm=>by
  have e0:i=6:=by omega
  subst e0;have h1':¬ ((6:Nat):Int)<6:=by omega
  have l1:(F9 k l s p d)[10]?=A4 (.i .i64 d[6]):=by
   have:(encI d)[6]?=A4 (.i .i64 d[6]):=by rw [I1,E5P (by omega)];rfl
   exact this
  have a1:I3 7 1 (pV (g.length+2) 0) (iV 6)=A4 (pV (g.length+2) 6):=rfl;have ho:6<(encI (d.take 6++zI (7-6))).length:=by rw [B7,E5T,J6,E6l];omega
  have es:(encI (d.take 6++zI (7-6))).set 6 (.i .i64 d[6])=encI d:=by
   rw [X5]
   congr 1
   have h6:(d.take 6).length=6:=by simp;omega
   rw [E6u _ _ (by omega),h6];have:d=d.take 6++[d[6]]:=by
    rw [<-E58 (by omega),E53 (by omega)]
   conv=>rhs;rw [this]
   rfl
  have hl:(encI d).length=7:=by rw [B7,hd]
  rw [A0N];simp only [esc,esh,h1',l1,a1,ho,es,hl,hz]
 | e+1,i,m+1,hi,hm=>by
  have ih:=B8N (g:=g) (k:=k) (l:=l) (s:=s) (p:=p) (q:=q) hd hz e (i+1) m (by omega) (by omega);have h1':(i:Int)<6:=by omega
  have hx:A45 6 (.a (encI (d.take 6))) (iV (i:Int))=A4 (iV d[i]):=by
   rw [B8m (by omega),I1,E6s (by omega),E5P (by omega)];rfl
  have a1:I3 7 1 (pV (g.length+2) 0) (iV (i:Int))=A4 (pV (g.length+2) i):=by rw [J5 (by omega)];simp
  have ho:i<(encI (d.take i++zI (7-i))).length:=by rw [B7,E5T,J6,E6l];omega
  have es:(encI (d.take i++zI (7-i))).set i (.i .i64 d[i])=encI (d.take (i+1)++zI (7-(i+1))):=by
   rw [X5];refine congrArg encI ?_;have h6:(d.take i).length=i:=by simp;omega
   rw [E6u _ _ (by omega),h6,E6D,E58 (by omega),E5Y];refine congrArg (d.take i ++ ·) ?_;rw [show 7-i=7-(i+1)+1 by omega];unfold zI;rw [E6k,E6G];rfl
  rw [A0N];simp only [esc,esh,h1',hx,a1,ho,es,D3 (show i+1<9223372036854775808 by omega)];exact ih
def E01 {k l s p:Int} {d:List Int} (hd:d.length=7):ldN (rT (F9 k l s p d)) 4 6=A4 (.a (encI (d.take 6))):=by
 have h1:(F9 k l s p d).length=11:=by simp [B7,hd]
 simp only [ldN,E54];rw [if_pos ⟨by omega,by simp⟩];simp only [List.drop_succ_cons,E6a];unfold encI;rw [List.map_take]
def oM {k l s p:Int} {d:List Int} {h:B5} (hd:d.length=7):dC [.a (F9 k l s p d)] h=A4 (.a (encI d),h):=by
 have key:∀ N,7<N->∀ g,∃ g',A0s N [.a (F9 k l s p d)] g=A4 (.a (encI d),g'):=by
  intro N hN g;have:=B8N (g:=g) (k:=k) (l:=l) (s:=s) (p:=p) (z:=encI (zI 7)) (q:=N) hd (by rw [B7,J6]) 6 0 N (by omega) (by omega);have e0:encI (d.take 0++zI (7-0))=[o0,o0,o0,o0,o0,o0,o0]:=rfl;have e1:encI (zI 7)=[o0,o0,o0,o0,o0,o0,o0]:=rfl;rw [e0,e1] at this;rw [B48];exact ⟨_,by simp only [esc,esh,Nat.reduceAdd,E01 hd];exact this⟩
 obtain ⟨g',e⟩:=key (h.length+8) (by omega) (ro h);exact B0V e (by simp)
def D1c (l s p:Int) (d:List Int):Bool:=decide (l=0/\s=0/\p=0/\d=zI 7)
def A4c (k l s p:Int) (d:List Int):Bool:=decide (0<=k/\k<=2)&&(O0 l&&(O0 p&&(decide (0<=s/\s<=34304)&&d.all O0)))
def A2E (k l s p:Int) (d:List Int):Bool:=if k=0 then D1c l s p d else A4c k l s p d
def C2a {h:B5} {d:List Int} {q:Nat} (hd:d.length=7):∀ e i m:Nat,i+e=7->e<m ->
  B13 q m (.a (encI d)) (iV i) h=A4 (iV (bif (d.drop i).all O0 then 0 else 1),h)
 | e,i,0,_,hm=>by omega
 | 0,i,m+1,hi,hm=>by
  have c0:¬ (i:Int)<7:=by omega
  rw [A36,E56 (by omega)];simp only [esc,c0,List.all_nil]
 | e+1,i,m+1,hi,hm=>by
  have ih:=C2a (h:=h) (q:=q) hd e (i+1) m (by omega) (by omega);have c0:(i:Int)<7:=by omega
  have hx:A45 7 (.a (encI d)) (iV (i:Int))=A4 (iV d[i]):=by
   rw [B8m (by omega),I1,E5P (by omega)];rfl
  rw [A36,E5X (by omega),E6B];cases c1:O0 d[i] with
  | true =>
   simp only [esc,c0,hx,Z3,c1,E55,D3 (show i+1<9223372036854775808 by omega)];exact ih
  | false=>simp only [esc,c0,hx,Z3,c1,E51]
def D5Y {k l s p k' l' s' p':Int} {d d':List Int} {neg:Bool} (hd:d.length=7) (hd':d'.length=7) :
  aeq neg [Sh.i .i64,.i .i64,.i .i64,.i .i64,.i .i64,.i .i64,.i .i64,.i .i64,.i .i64,.i .i64,.i .i64] (.a (F9 k l s p d)) (.a (F9 k' l' s' p' d'))=A4 (bV (bif neg then !decide (k::l::s::p::d=k'::l'::s'::p'::d') else decide (k::l::s::p::d=k'::l'::s'::p'::d'))):=by
 have h1:=D8i (l:=k::l::s::p::d) (m:=k'::l'::s'::p'::d') (n:=11) (by simp [hd]) (by simp [hd']);have h2:=C6d (l:=k::l::s::p::d) (m:=k'::l'::s'::p'::d') (n:=11) (by simp [hd]) (by simp [hd']);cases neg
 ·exact h2
 ·exact h1
def D4G {l s p:Int} {d:List Int}:decide ((0:Int)::l::s::p::d=0::0::0::0::zI 7)=D1c l s p d:=by
 unfold D1c;simp
def A5T:E6 [o0,o0,o0,o0,o0,o0,o0,o0,o0,o0,o0] []=A4 (F9 0 0 0 0 (zI 7)):=rfl
def B12 {k l s p:Int} {d:List Int} {h:B5} (hd:d.length=7):A4V [.a (F9 k l s p d)] h=A4 (iV (bif A2E k l s p d then 0 else 1),h):=by
 have hlen:(F9 k l s p d).length=11:=by simp [B7,hd]
 have key:∀ N,8<N->∀ g,∃ g',A4D N [.a (F9 k l s p d)] g=A4 (iV (bif A2E k l s p d then 0 else 1),g'):=by
  intro N hN g;have lp:=λg=>C2a (h:=g) (q:=N) hd 7 0 N (by omega) (by omega)
  simp only [E6a,E6r] at lp;rw [B9E];unfold A2E;by_cases k0:k=0
  ·subst k0;rw [if_pos rfl];have c1:¬ (0:Int)<0:=by omega
   have c2:¬ (2:Int)<0:=by omega
   have hq:=D5Y (k:=0) (l:=l) (s:=s) (p:=p) (k':=0) (l':=0) (s':=0) (p':=0) (neg:=A5) hd (J6 (n:=7));simp only [cond_true,D4G] at hq;cases hz:D1c l s p d with
   | false =>
    rw [hz] at hq;exact ⟨_,by simp only [esc,esh,c1,c2,hlen,A5T,hq]<;>rfl⟩
   | true =>
    rw [hz] at hq;have hz':=of_decide_eq_true hz;obtain ⟨rfl,rfl,rfl,rfl⟩:=hz';have sm:O0 0=A5:=by decide
    have al:(zI 7).all O0=A5:=by decide
    have c3:¬ (34304:Int)<0:=by omega
    rw [al] at lp;exact ⟨_,by simp only [esc,esh,c1,c2,c3,hlen,A5T,hq,Z3,sm,oM hd,lp]<;>rfl⟩
  ·rw [if_neg k0];unfold A4c;by_cases c1:k<0
   ·rw [decide_eq_false (show ¬ (0<=k/\k<=2) by omega)];exact ⟨_,by simp only [esc,esh,c1,E51]<;>rfl⟩
   ·by_cases c2:2<k
    ·rw [decide_eq_false (show ¬ (0<=k/\k<=2) by omega)];exact ⟨_,by simp only [esc,esh,c1,c2,E51]<;>rfl⟩
    ·rw [decide_eq_true (show 0<=k/\k<=2 by omega),E55];cases sl:O0 l with
     | false=>exact ⟨_,by simp only [esc,esh,c1,c2,k0,Z3,sl,E51]<;>rfl⟩
     | true =>
      cases sp:O0 p with
      | false=>exact ⟨_,by simp only [esc,esh,c1,c2,k0,Z3,sl,sp,E55,E51]<;>rfl⟩
      | true =>
       by_cases c3:s<0
       ·rw [decide_eq_false (show ¬ (0<=s/\s<=34304) by omega)];exact ⟨_,by simp only [esc,esh,c1,c2,k0,Z3,sl,sp,c3,E55,E51]<;>rfl⟩
       ·by_cases c4:34304<s
        ·rw [decide_eq_false (show ¬ (0<=s/\s<=34304) by omega)];exact ⟨_,by simp only [esc,esh,c1,c2,k0,Z3,sl,sp,c3,c4,E55,E51]<;>rfl⟩
        ·rw [decide_eq_true (show 0<=s/\s<=34304 by omega)];exact ⟨_,by simp only [esc,esh,c1,c2,k0,Z3,sl,sp,c3,c4,E55,hlen,oM hd,lp]<;>rfl⟩
 obtain ⟨g',e⟩:=key (h.length+9) (by omega) (ro h);exact B5F e rfl
def uW (k l s p:Int):List UInt8:=C4 1 k++zeros 1++C4 2 l++C4 4 s++C4 2 p
def uN (d:List Int):List UInt8:=(d.map (C4 2)).flatten
def iS (k l s p:Int) (d:List Int):List UInt8:=uW k l s p++uN d++zeros 8
def gU {k l s p:Int}:(uW k l s p).length=10:=by simp [uW]
def nA {d:List Int}:(uN d).length=2*d.length:=by
 unfold uN
 induction d with
 | nil=>rfl
 | cons x d ih=>simp only [E6X,List.flatten_cons,E5T,Q8,E52,ih];omega
def mZ {k l s p:Int} {d:List Int} (hd:d.length=7):(iS k l s p d).length=32:=by
 unfold iS;rw [E5T,E5T,gU,nA,zeros_length,hd]
def C0Y {d:List Int} {x:Int}:uN (d++[x])=uN d++C4 2 x:=by simp [uN]
def D7k {k l s p:Int}:jG (jG (jG (jG (zeros 256) 0 1 k) 2 2 l) 4 4 s) 8 2 p=P7 256 (uW k l s p):=by
 rw [<-B8R];have h1:=jP (l:=[]) (a:=0) (w:=1) (v:=k) (by simp) (by omega) (by omega) (by omega);have h2:=jP (l:=[]++zeros (0-0)++C4 1 k) (a:=2) (w:=2) (v:=l) (by simp) (by omega) (by omega) (by omega);have h3:=jP (l:=[]++zeros (0-0)++C4 1 k++zeros 1++C4 2 l) (a:=4) (w:=4) (v:=s) (by simp) (by omega) (by omega) (by omega);have h4:=jP (l:=[]++zeros (0-0)++C4 1 k++zeros 1++C4 2 l++zeros 0++C4 4 s) (a:=8) (w:=2) (v:=p) (by simp) (by omega) (by omega) (by omega);simp only [E5T,E6h,zeros_length,Q8,E6D,Nat.reduceAdd,Nat.reduceSub] at h1 h2 h3 h4;simp only [E6r] at h1 h2 h3 h4;rw [h1,h2,h3,h4]
 congr 1
def D4d {g:B5} {c0:List Cell} {B:List UInt8} {z:List Cell} {q:Nat} (hB:B.length=256) (hz:z.length=32):∀ e i m:Nat,i+e=32->e<m ->
  B8x q m (pV (g.length+1) 0) (pV (g.length+2) 0) (pV (g.length+3) 0) (iV i) (g++[rT c0,rT z,rT (B4 (B.take i++zeros (32-i))),rT (B4 B)]) =
   A4 (.t [.a (B4 (B.take 32)),.c o0],g++[rT c0,rT (B4 (B.take 32)),rT (B4 (B.take 32)),rT (B4 B)])
 | e,i,0,_,hm=>by omega
 | 0,i,m+1,hi,hm=>by
  have e0:i=32:=by omega
  subst e0;have h1':¬ ((32:Nat):Int)<32:=by omega
  have hl:(B4 (B.take 32)).length=32:=by rw [A9,E6l];omega
  have e1:B4 (B.take 32++zeros (32-32))=B4 (B.take 32):=by simp [zeros]
  rw [A9h,e1];simp only [esc,esh,h1',hl,hz]
 | e+1,i,m+1,hi,hm=>by
  have ih:=D4d (g:=g) (c0:=c0) (q:=q) hB hz e (i+1) m (by omega) (by omega);have h1':(i:Int)<32:=by omega
  have a1:I3 256 1 (pV (g.length+3) 0) (iV (i:Int))=A4 (pV (g.length+3) i):=by rw [J5 (by omega)];simp
  have a2:I3 32 1 (pV (g.length+2) 0) (iV (i:Int))=A4 (pV (g.length+2) i):=by rw [J5 (by omega)];simp
  have l1:(B4 B)[i]?=A4 (.i .u8 B[i].toNat):=by rw [Z0,E5P (by omega)];rfl
  have ho:i<(B4 (B.take i++zeros (32-i))).length:=by rw [A9,E5T,zeros_length,E6l];omega
  have es:(B4 (B.take i++zeros (32-i))).set i (.i .u8 B[i].toNat)=B4 (B.take (i+1)++zeros (32-(i+1))):=by
   rw [iY];refine congrArg B4 ?_;have h6:(B.take i).length=i:=by simp;omega
   rw [E6u _ _ (by omega),h6,E6D,E58 (by omega),E5Y];refine congrArg (B.take i ++ ·) ?_;rw [show 32-i=32-(i+1)+1 by omega];unfold zeros;rw [E6k,E6G];rfl
  rw [A9h];simp only [esc,esh,h1',a1,a2,l1,ho,es,D3 (show i+1<9223372036854775808 by omega)];exact ih
def D4e {g:B5} {k l s p:Int} {d:List Int} {c0 z:List Cell} {q:Nat} (hd:d.length=7) (hz:z.length=32) (hq:33<q):∀ e i m:Nat,i+e=7->e<m ->
  B8w q m (pV (g.length+1) 0) (pV (g.length+2) 0) (pV (g.length+3) 0) (.a (encI d)) (iV i) (g++[rT c0,rT z,rT (B4 (zeros 32)),rT (B4 (P7 256 (uW k l s p++uN (d.take i))))]) =
   A4 (.t [.a (B4 (iS k l s p d)),.c o0],g++[rT c0,rT (B4 (iS k l s p d)),rT (B4 (iS k l s p d)),rT (B4 (P7 256 (uW k l s p++uN d)))])
 | e,i,0,_,hm=>by omega
 | 0,i,m+1,hi,hm=>by
  have e0:i=7:=by omega
  subst e0;have h1':¬ ((7:Nat):Int)<7:=by omega
  rw [E53 (by omega)];have hlen:(uW k l s p++uN d).length=24:=by rw [E5T,gU,nA,hd]
  have:=D4d (g:=g) (c0:=c0) (z:=z) (q:=q) (B:=P7 256 (uW k l s p++uN d)) (I6 (by omega)) hz 32 0 q (by omega) (by omega);have e1:(P7 256 (uW k l s p++uN d)).take 32=iS k l s p d:=by
   unfold P7 iS;rw [List.take_append,E53 (by omega),hlen];refine congrArg (uW k l s p++uN d ++ ·) ?_;unfold zeros;rw [List.take_replicate];rfl
  rw [e1] at this;simp only [E6U,E59,Nat.sub_zero] at this;rw [A9g];simp only [esc,h1'];exact this
 | e+1,i,m+1,hi,hm=>by
  have ih:=D4e (g:=g) (k:=k) (l:=l) (s:=s) (p:=p) (c0:=c0) hd hz hq e (i+1) m (by omega) (by omega);have h1':(i:Int)<7:=by omega
  have hx:A45 7 (.a (encI d)) (iV (i:Int))=A4 (iV d[i]):=by
   rw [B8m (by omega),I1,E5P (by omega)];rfl
  have hlen:(uW k l s p++uN (d.take i)).length=10+2*i:=by rw [E5T,gU,nA,E6l];omega
  have hL:(B4 (P7 256 (uW k l s p++uN (d.take i)))).length=256:=by rw [A9,I6 (by omega)]
  have e2:E5U .i64 (2*(i:Int))=((2*i:Nat):Int):=by rw [wrap_i64 (by omega) (by omega)];omega
  have e3:E5U .i64 (10+((2*i:Nat):Int))=((10+2*i:Nat):Int):=by rw [wrap_i64 (by omega) (by omega)];omega
  have hw:=Z5 (l:=P7 256 (uW k l s p++uN (d.take i))) (h:=g++[rT c0,rT z,rT (B4 (zeros 32)),rT (B4 (P7 256 (uW k l s p++uN (d.take i))))]) (I6 (by omega)) (a:=((10+2*i:Nat):Int)) (w:=2) (v:=d[i]);have e4:=jP (l:=uW k l s p++uN (d.take i)) (a:=10+2*i) (w:=2) (v:=d[i]) (by omega) (by omega) (by omega) (by omega);rw [show ((2:Nat):Int)=2 from rfl,hlen,E6D,show zeros 0=[] from rfl,E6m,E5Y,<-C0Y,<-E58 (by omega)] at e4;rw [e4] at hw;have hL':(B4 (P7 256 (uW k l s p++uN (d.take (i+1))))).length=256:=by
   rw [A9,I6 (by rw [E5T,gU,nA,E6l];omega)]
  rw [A9g];simp only [esc,esh,h1',hx,hL,e2,e3,hw,hL',D3 (show i+1<9223372036854775808 by omega)];exact ih
def B8v {k l s p:Int} {d:List Int} {h:B5} (hd:d.length=7) :
  A3D [.a (F9 k l s p d)] h=A4 (.t [.a (B4 (bif A2E k l s p d then iS k l s p d else zeros 32)),.c (.i .i64 (bif A2E k l s p d then 0 else 1))],h):=by
 have hlen:(F9 k l s p d).length=11:=by simp [B7,hd]
 have key:∀ N,33<N->∀ g,∃ g',B0m N [.a (F9 k l s p d)] g=A4 (.t [.a (B4 (bif A2E k l s p d then iS k l s p d else zeros 32)),.c (.i .i64 (bif A2E k l s p d then 0 else 1))],g'):=by
  intro N hN g;have hz:(B4 (zeros 32)).length=32:=by rw [A9];exact zeros_length
  have hz2:(B4 (zeros 256)).length=256:=by rw [A9];exact zeros_length
  rw [C5c,I9,I9];cases c:A2E k l s p d with
  | false =>
   generalize zeros 32=z at *;generalize zeros 256=y at *;exact ⟨_,by simp only [esc,esh,Nat.reduceAdd,hlen,B12 hd,c,hz,Int.reduceEq]<;>rfl⟩
  | true =>
   have:=D4e (g:=g) (k:=k) (l:=l) (s:=s) (p:=p) (c0:=F9 k l s p d) (z:=B4 (zeros 32)) (q:=N) hd hz hN 7 0 N (by omega) (by omega);simp only [E6U,show uN []=[] from rfl,E6m] at this;have w1:=λh=>Z5 (h:=h) (l:=zeros 256) zeros_length (a:=0) (w:=1) (v:=k)
   have w2:=λh=>Z5 (h:=h) (l:=jG (zeros 256) 0 1 k) (U3 zeros_length) (a:=2) (w:=2) (v:=l)
   have w3:=λh=>Z5 (h:=h) (l:=jG (jG (zeros 256) 0 1 k) 2 2 l) (U3 (U3 zeros_length)) (a:=4) (w:=4) (v:=s)
   have w4:=λh=>Z5 (h:=h) (l:=jG (jG (jG (zeros 256) 0 1 k) 2 2 l) 4 4 s) (U3 (U3 (U3 zeros_length))) (a:=8) (w:=2) (v:=p)
   have l1:(B4 (jG (zeros 256) 0 1 k)).length=256:=by rw [A9,U3 zeros_length]
   have l2:(B4 (jG (jG (zeros 256) 0 1 k) 2 2 l)).length=256:=by rw [A9,U3 (U3 zeros_length)]
   have l3:(B4 (jG (jG (jG (zeros 256) 0 1 k) 2 2 l) 4 4 s)).length=256:=by rw [A9,U3 (U3 (U3 zeros_length))]
   have l4:(B4 (P7 256 (uW k l s p))).length=256:=by rw [A9,I6 (by rw [gU];omega)]
   simp only [D7k] at w4;generalize zeros 32=z at *;generalize zeros 256=y at *;exact ⟨_,by simp only [esc,esh,Nat.reduceAdd,hlen,B12 hd,c,hz,hz2,w1,w2,w3,w4,l1,l2,l3,l4,oM hd];exact this⟩
 obtain ⟨g',e⟩:=key (h.length+34) (by omega) (ro h);exact C0k e (by simp)
def sH (b:List UInt8):Int:=fieldN b 0 1
def uK (b:List UInt8):Int:=fieldN b 2 2
def uM (b:List UInt8):Int:=fieldN b 4 4
def uL (b:List UInt8):Int:=fieldN b 8 2
def N5 (b:List UInt8):List Int:=(E6p 7).map λj=>fieldN b (10+2*j) 2
def F8 {b:List UInt8}:(N5 b).length=7:=by simp [N5]
def B2Z {b:List UInt8} {i:Nat} (hi:i<7):(N5 b)[i]?=A4 (fieldN b (10+2*i) 2):=by simp [N5,hi]
def B8t {k l s p x:Int} {d:List Int} {i:Nat}:(F9 k l s p d).set (4+i) (.i .i64 x)=F9 k l s p (d.set i x):=by
 rw [show 4+i=i+1+1+1+1 by omega];simp only [F9,E6H,X5]
def A1u {D:List Int} (hD:D.length=7) {i:Nat} (hi:i<7):(D.take i++zI (7-i)).set i D[i]=D.take (i+1)++zI (7-(i+1)):=by
 have h6:(D.take i).length=i:=by simp;omega
 rw [E6u _ _ (by omega),h6,E6D,E58 (by omega),E5Y];refine congrArg (D.take i ++ ·) ?_;rw [show 7-i=7-(i+1)+1 by omega];unfold zI;rw [E6k,E6G];rfl
def D0B {g:B5} {b:List UInt8} {k l s p:Int} {c0 z:List Cell} {q:Nat} (hb:b.length=32) (hz:z.length=11):∀ e i m:Nat,i+e=6->e<m ->
  B8u q m (pV (g.length+1) 0) (pV (g.length+2) 0) (pV (g.length+3) 0) (iV i) (g++[rT c0,rT z,rT (B4 (P7 256 b)),rT (F9 k l s p ((N5 b).take i++zI (7-i)))]) =
   A4 (.a (F9 k l s p (N5 b)),g++[rT c0,rT (F9 k l s p (N5 b)),rT (B4 (P7 256 b)),rT (F9 k l s p (N5 b))])
 | e,i,0,_,hm=>by omega
 | 0,i,m+1,hi,hm=>by
  have e0:i=6:=by omega
  subst e0;have h1':¬ ((6:Nat):Int)<6:=by omega
  have hX:(B4 (P7 256 b)).length=256:=by rw [A9,I6 (by omega)]
  have ha:=λh=>oP (h:=h) (l:=P7 256 b) (I6 (by omega)) (a:=22) (w:=2)
  have e1:=D4Q (b:=b) (a:=22) (w:=2) (by omega) (by omega) (by omega) (by omega);simp only [E6r] at e1;simp only [e1] at ha;have ho:(encI ((N5 b).take 6++zI (7-6))).length=7:=by simp [B7,F8,J6]
  have hg6:(N5 b)[6]'(by rw [F8];omega)=fieldN b 22 2:=by
   have:=B2Z (b:=b) (i:=6) (by omega);rw [E5P (by rw [F8];omega)] at this;exact Option.some.inj this
  have es:(F9 k l s p ((N5 b).take 6++zI (7-6))).set 10 (.i .i64 (fieldN b 22 2))=F9 k l s p (N5 b):=by
   have h1:=B8t (k:=k) (l:=l) (s:=s) (p:=p) (x:=fieldN b 22 2) (d:=(N5 b).take 6++zI (7-6)) (i:=6);rw [show 4+6=10 from rfl] at h1;rw [h1,<-hg6,A1u F8 (by omega)];have:(N5 b).take (6+1)++zI (7-(6+1))=N5 b:=by rw [E53 (by rw [F8];omega)];simp [zI]
   rw [this]
  have hl1:(F9 k l s p (N5 b)).length=11:=by simp [B7,F8]
  rw [A9f];simp only [esc,esh,Nat.reduceAdd,Nat.reduceLT,h1',hX,ha,ho,es,hl1,hz]
 | e+1,i,m+1,hi,hm=>by
  have ih:=D0B (g:=g) (k:=k) (l:=l) (s:=s) (p:=p) (c0:=c0) (q:=q) hb hz e (i+1) m (by omega) (by omega);have h1':(i:Int)<6:=by omega
  have hX:(B4 (P7 256 b)).length=256:=by rw [A9,I6 (by omega)]
  have e2:E5U .i64 (2*(i:Int))=((2*i:Nat):Int):=by rw [wrap_i64 (by omega) (by omega)];omega
  have e3:E5U .i64 (10+((2*i:Nat):Int))=((10+2*i:Nat):Int):=by rw [wrap_i64 (by omega) (by omega)];omega
  have ha:=λh=>oP (h:=h) (l:=P7 256 b) (I6 (by omega)) (a:=((10+2*i:Nat):Int)) (w:=2)
  have e1:=D4Q (b:=b) (a:=10+2*i) (w:=2) (by omega) (by omega) (by omega) (by omega);rw [show ((2:Nat):Int)=2 from rfl] at e1;simp only [e1] at ha;have a1:I3 6 1 (pV (g.length+3) 4) (iV (i:Int))=A4 (pV (g.length+3) (4+i)):=by rw [J5 (by omega)];simp
  have ho:(encI ((N5 b).take i++zI (7-i))).length=7:=by simp [B7,F8,J6];omega
  have ho2:4+i<11:=by omega
  have hgi:(N5 b)[i]'(by rw [F8];omega)=fieldN b (10+2*i) 2:=by
   have:=B2Z (b:=b) (i:=i) (by omega);rw [E5P (by rw [F8];omega)] at this;exact Option.some.inj this
  have es:(F9 k l s p ((N5 b).take i++zI (7-i))).set (4+i) (.i .i64 (fieldN b (10+2*i) 2))=F9 k l s p ((N5 b).take (i+1)++zI (7-(i+1))):=by
   rw [B8t,<-hgi,A1u F8 (by omega)]
  rw [A9f];simp only [esc,esh,Nat.reduceAdd,h1',hX,e2,e3,ha,a1,ho,ho2,es,D3 (show i+1<9223372036854775808 by omega)];exact ih
def A8m {b:List UInt8} {h:B5} (hb:b.length=32):B0U [.a (B4 b)] h=A4 (.a (F9 (sH b) (uK b) (uM b) (uL b) (N5 b)),h):=by
 have key:∀ N,7<N->∀ g,∃ g',B0l N [.a (B4 b)] g=A4 (.a (F9 (sH b) (uK b) (uM b) (uL b) (N5 b)),g'):=by
  intro N hN g;have hl:(B4 b).length=32:=by rw [A9,hb]
  have hX:(B4 (P7 256 b)).length=256:=by rw [A9,I6 (by omega)]
  have hz:(E5R 256 (Cell.i .u8 0)).length=256:=E6n;have z11:[o0,o0,o0,o0,o0,o0,o0,o0,o0,o0,o0]=F9 0 0 0 0 (zI 7):=rfl;have l11:(F9 0 0 0 0 (zI 7)).length=11:=rfl;have ho:=B27 (h:=g++[rT (B4 b),rT (F9 0 0 0 0 (zI 7))]) (v:=sV g.length 0 32 1) (nv:=32) (data:=b) (Has.tr (by simp) (by omega) (G9 _)) (by omega);rw [C7F (by omega)] at ho;have at_:∀ (a w:Nat),a+w<=32->1<=w->w<=4->∀ h,zP [.a (B4 (P7 256 b)),iV a,iV w] h=A4 (iV (fieldN b a w),h):=λa w h1 h2 h3 h=>by
   rw [oP (I6 (by omega)),D4Q (by omega) (by omega) h2 h3]
  have a1:=at_ 0 1 (by omega) (by omega) (by omega);have a2:=at_ 2 2 (by omega) (by omega) (by omega);have a3:=at_ 4 4 (by omega) (by omega) (by omega);have a4:=at_ 8 2 (by omega) (by omega) (by omega);simp only [E6r] at a1 a2 a3 a4;have ef:E6 (F9 0 0 0 0 (zI 7)) [(0,1,iV (fieldN b 0 1)),(1,1,iV (fieldN b 2 2)),(2,1,iV (fieldN b 4 4)),(3,1,iV (fieldN b 8 2))]=A4 (F9 (sH b) (uK b) (uM b) (uL b) (zI 7)):=rfl;have lf:(F9 (sH b) (uK b) (uM b) (uL b) (zI 7)).length=11:=rfl;have:=D0B (g:=g) (b:=b) (k:=sH b) (l:=uK b) (s:=uM b) (p:=uL b) (c0:=B4 b) (z:=F9 0 0 0 0 (zI 7)) (q:=N) hb l11 6 0 N (by omega) (by omega);simp only [E6U,E59,Nat.sub_zero] at this;rw [C5b,z11];generalize E5R 256 (Cell.i .u8 0)=z at *;generalize F9 0 0 0 0 (zI 7)=y at *;exact ⟨_,by simp only [esc,esh,Nat.reduceAdd,hl,ho,hz,hX,a1,a2,a3,a4,ef,l11,lf];exact this⟩
 obtain ⟨g',e⟩:=key (h.length+8) (by omega) (ro h);exact C0j e (by simp)
def iO (b:List UInt8):Bool:=A2E (sH b) (uK b) (uM b) (uL b) (N5 b)&&decide (iS (sH b) (uK b) (uM b) (uL b) (N5 b)=b)
def eR (b:List UInt8):List Cell:=bif iO b then F9 (sH b) (uK b) (uM b) (uL b) (N5 b) else F9 0 0 0 0 (zI 7)
def yV {b:List UInt8}:(eR b).length=11:=by
 unfold eR;cases iO b<;>simp [B7,F8,J6]
def A1n {b:List UInt8}:O5 (eR b)=A5:=by
 unfold eR;cases iO b<;>simp
def C7g {b:List UInt8} {h:B5} (hb:b.length=32):A4W [.a (B4 b)] h=A4 (.t [.a (eR b),.c (.b (iO b))],h):=by
 have key:∀ g,∃ g',A4E 0 [.a (B4 b)] g=A4 (.t [.a (eR b),.c (.b (iO b))],g'):=by
  intro g;have hl:(B4 b).length=32:=by rw [A9,hb]
  have hI:(F9 (sH b) (uK b) (uM b) (uL b) (N5 b)).length=11:=by simp [B7,F8]
  have z11:[o0,o0,o0,o0,o0,o0,o0,o0,o0,o0,o0]=F9 0 0 0 0 (zI 7):=rfl;have l11:(F9 0 0 0 0 (zI 7)).length=11:=rfl;have af:=A5T;rw [z11] at af;have hz:(E5R 32 (Cell.i .u8 0)).length=32:=E6n;have hp:=λh=>B8v (h:=h) (k:=sH b) (l:=uK b) (s:=uM b) (p:=uL b) (d:=N5 b) F8
  have hB:(B4 (iS (sH b) (uK b) (uM b) (uL b) (N5 b))).length=32:=by rw [A9,mZ F8]
  have hZ:(B4 (zeros 32)).length=32:=by rw [A9];exact zeros_length
  have hq:=D2W (l:=iS (sH b) (uK b) (uM b) (uL b) (N5 b)) (m:=b) (n:=32) (mZ F8) hb;rw [B9F,z11];unfold eR iO;generalize E5R 32 (Cell.i .u8 0)=z at *;generalize F9 0 0 0 0 (zI 7)=y at *;cases c:A2E (sH b) (uK b) (uM b) (uL b) (N5 b) with
  | false =>
   simp only [c,cond_false] at hp;exact ⟨_,by simp only [esc,esh,Nat.reduceAdd,hl,A8m hb,hI,l11,hp,hz,hZ,Int.reduceEq,af,E51]<;>rfl⟩
  | true =>
   simp only [c,cond_true] at hp;cases c2:decide (iS (sH b) (uK b) (uM b) (uL b) (N5 b)=b) with
   | false =>
    rw [c2] at hq;exact ⟨_,by simp only [esc,esh,Nat.reduceAdd,hl,A8m hb,hI,l11,hp,hz,hB,hq,af,E6T]<;>rfl⟩
   | true =>
    rw [c2] at hq;exact ⟨_,by simp only [esc,esh,Nat.reduceAdd,hl,A8m hb,hI,l11,hp,hz,hB,hq,Bool.and_true]<;>rfl⟩
 obtain ⟨g',e⟩:=key (ro h);exact B5G e (by simp [A1n])
section
variable (n m m2:Nat) (a0 a1 a2 x1 x2 x3 x4 x5 x6 x7 x8 x9 x10 x11 x12 x15 x16 x17 x20 x21:Val) (h:B5)
def yI:FD A8:=⟨px 0X16f2013803804045500521103a2342,[],[.min (.t 4) (.v (.c (.i .i64 5))),.max (.v (.c o0)) (.t 5)],[.tmp 2],[]⟩
def A4A:=yI.R
def B9B:=mR A4A yI (tT []) n [a0] h
def dX:=yI.K Tryz.func168
def bK:=yI.S
def B5C:F6 A4A bK:=dX.flat
def A0Y:FD A8:=⟨px 0X118f20306197ffffd0191b1a71b701104261700523201042,[],[],[.tmp 2],[]⟩
def B66:=A0Y.R
def C3e:=mR B66 A0Y (tT []) n [a0] h
def A65:=A0Y.K Tryz.func169
def A1c:=A0Y.S
def B7w:F6 B66 A1c:=A65.flat
def qX:FD A8:=⟨px 0X113022f48864f4884c1c3024bf2d053c0221827c488601941a4236e1028902019626a16a4883d1c7180153026c488601c3b371111113722403f01334e39036f420338f12ff50618487a414484a18215030702441328901215d4200605110481814c2b2b35b591820132af2488611c145a052964230403e501130785b134b123b112b104194101d18d721919411930153022c488601c3b371062240632101032849180401c72b40192f4303111c4c03a353182,[.c (.i .u8 105),.c (.i .u8 100),.c (.i .u8 120),.c (.i .u8 33)],[],[.cellN 2 256,.tmp 3],[E3 bK dX,E3 A5Q A9W,E3 qJ A1Q,E3 A1c A65]⟩
def B0j:=qX.R
def B8r:AtH:=qX.lj 0 n [m] [x2,x4,x20,x21]
def C1S:=tT [⟨2,4,B8r⟩]
def C5a:=mR B0j qX C1S n [a0] h
def A9e:=mL qX C1S 0 n [m] [x2,x4,x20,x21] h
def A9R:=qX.K Tryz.func103
def A3C:=qX.S
def C5P:SOk A8 103 A3C:=A9R.sok
def C0i:F6 B0j A3C:=A9R.flat
def A0Z:FD A8:=⟨px 0X16f20051b2058010344918500521103a2342,[],[],[.tmp 2],[E3 bK dX]⟩
def A7p:=A0Z.R
def C3f:=mR A7p A0Z (tT []) n [a0] h
def gZ:=A0Z.K Tryz.func163
def dL:=A0Z.S
def B7x:F6 A7p dL:=gZ.flat
def gJ:FD A8:=⟨px 0X113022f4964f49691c3025af180500218a59031801793022f49601f3b3711107224103204401482d14f518e5b051bf4235313270242890127e4f021a94203016254ef18001234f494d1c329421915301793022f49601f3b3711622401b181907e4e1f4887e3c6c4887e3c0110325c3d0718f422200333cf13bf248861c61b11828063b2c3af38001135a49391c181a1c331a22ff1c052e02218422a1e01482d14a519018303028902019623813e488182c1f019181ef50412284215030702441328901213b420060511c013942031bf24961f41b01011f3b529030328488191c51942111f4c03a353182,[],[.eqA A5 (E5R 256 (.i .u8)) (.t 32) (.t 33)],[.cellN 2 33,.tmp 3],[E3 zP A5C,E3 A3C A9R,E3 dL gZ]⟩
def B0i:=gJ.R
def B8o:AtH:=gJ.lj 0 n [m] [x1,x2,x4,x12]
def B8p:AtH:=gJ.lj 1 n [m] [x2,x4,x8]
def B05:=tT [⟨2,4,B8o⟩,⟨2,3,B8p⟩]
def C49:=mR B0i gJ B05 n [a0] h
def A9a:=mL gJ B05 0 n [m] [x1,x2,x4,x12] h
def A9b:=mL gJ B05 1 n [m] [x2,x4,x8] h
def C1t:=gJ.K Tryz.func99
def B0T:=gJ.S
def C5O:SOk A8 99 B0T:=C1t.sok
def C0g:F6 B0i B0T:=C1t.flat
def jJ:FD A8:=⟨px 0X11b401022bf7053802b492180134013c000002722401a22104401482d13a53a104401482d12a51a1a0180194d25319f5041264215030702441340121294200605111a6021f1d462820023340422e253182,[],[],[.tmp 4],[]⟩
def A4B:=jJ.R
def B1Z:AtH:=jJ.lj 0 n [m] [x1,x2,x6,x7]
def B3Q:=tT [⟨2,4,B1Z⟩]
def B9C:=mR A4B jJ B3Q n [a0,a1] h
def A34:=mL jJ B3Q 0 n [m] [x1,x2,x6,x7] h
def A4m:=jJ.K Tryz.func170
def yT:=jJ.S
def B5D:F6 A4B yT:=A4m.flat
def fI:FD A8:=⟨px 0X14ff607e4f02600001724af19004026c15e4804184ef1800613901011113e6e16e4b05181541307024061201036c49184e3c047f4203006053bf190041824e16839042b271c200003314a1294238f70051b20581380380113484918482a0181f6301d201164812e00001722401b1a19064381a010382f2e49383c383870110122a1a0184b42031648632e27531c2,[],[.min (.t 18) (.t 20),.max (.v (.c o0)) (.t 21)],[.tmp 6],[E3 dL gZ,E3 bK dX]⟩
def A1Z:=fI.R
def A9d:AtH:=fI.lj 0 n [m] [x3,x7,x8,x9]
def B06:=tT [⟨2,4,A9d⟩]
def B65:=mR A1Z fI B06 n [a0,a1,a2] h
def B6g:=mL fI B06 0 n [m] [x3,x7,x8,x9] h
def A1P:=fI.K Tryz.func209
def tK:=fI.S
def B5A:pY A1Z tK:=A1P.out
def jK:FD A8:=⟨px 0X11b601022df1b052c02d492180136013c0000003722404324a104401482d13a51e1f06592521ef1800441811d3184215030702451340121394200605110292819032f2d2b652c2000033360632e27531c2,[],[],[.tmp 6],[]⟩
def A4C:=jK.R
def B10:AtH:=jK.lj 0 n [m] [x2,x3,x9,x10,x11]
def B3R:=tT [⟨2,5,B10⟩]
def B9D:=mR A4C jK B3R n [a0,a1,a2] h
def A35:=mL jK B3R 0 n [m] [x2,x3,x9,x10,x11] h
def B3C:=jK.K Tryz.func241
def A4U:=jK.S
def B5E:F6 A4C A4U:=B3C.flat
def nT:FD A8:=⟨px 0X14ff4001132f494e1c3024df28055a04d49218014cf407e127e00000037224302e1901a2a33692f20691e40148696a17a691f7a69704632692f5e6976c6976849693c5e49693c01103204401482d14c54c2b01f01918f432af504123842150307024413401214b420060511011338491e1c3493f61c240530114012a0000722401b1a19064281a010282f2849283c282870110121a60183b4203140422e253182,[],[],[.tmp 4],[E3 dL gZ,E3 bK dX,E3 tK A1P,E3 A4U B3C]⟩
def A7o:=nT.R
def B4n:AtH:=nT.lj 0 n [m] [x1,x2,x15,x16]
def B7L:=tT [⟨2,4,B4n⟩]
def C3d:=mR A7o nT B7L n [a0,a1] h
def A6r:=mL nT B7L 0 n [m] [x1,x2,x15,x16] h
def B6Q:=nT.K Tryz.func210
def A7Q:=nT.S
def B7v:F6 A7o A7Q:=B6Q.flat
def bI:FD A8:=⟨px 0X12df40482d021a0000003722cf19052e02c4921802bf5050023a13182404223e104401482d12e51c1c064b3521bf60412184215011a07024513401212d42006051101031a4971c32b296328200231111b42140422e253182,[],[],[.tmp 4],[E3 dL gZ]⟩
def A4z:=bI.R
def B1X:AtH:=bI.lj 0 n [m] [x1,x2,x5,x8,x9]
def C7e:AtH:=bI.lj 1 n [m] [x1,x2,x5,x8,x9]
def A43:=tT [⟨2,5,B1X⟩,⟨2,5,C7e⟩]
def B9A:=mR A4z bI A43 n [a0,a1] h
def A33:=mL bI A43 0 n [m] [x1,x2,x5,x8,x9] h
def A32:=mJ bI A43 1 n [m] [x1,x2,x5,x8,x9] h
def B3B:=bI.K Tryz.func211
def A4T:=bI.S
def B5B:F6 A4z A4T:=B3B.flat
def gI:FD A8:=⟨px 0X122f4963f496c1c211111104326bf290518c022180422a601482d13f55f14f15182401b3819018218c1a2042618c2f5f18c71f4918c3c018c4b0181a3518c2f042418c2f4f18c71f4918c3c4f18c71f4918c3c01042337817c49181e0191bd7530172401b181906c4d0126c2f5c6c70110224e38077d42032ff5004401482d1585482c051b422bf404123c4215011a07024513401214d42006051101133c491f1c34b4941c20131ef24961f31b01011f3b0402e55731820122a49601f3b21022240632101031e49180401a62b40192d43031f4c03a253182,[],[],[.cellN 2 33],[E3 bK dX,E3 dL gZ,E3 A1c A65,E3 yT A4m,E3 A7Q B6Q,E3 tK A1P,E3 A4T B3B]⟩
def B0h:=gI.R
def A1q:AtH:=gI.lj 0 n [m] [x1,x2,x3,x16,x17]
def D1X:AtH:=gI.lj 1 n [m] [x1,x2,x3,x16,x17]
def B04:=tT [⟨2,5,A1q⟩,⟨2,5,D1X⟩]
def C48:=mR B0h gI B04 n [a0] h
def A89:=mL gI B04 0 n [m] [x1,x2,x3,x16,x17] h
def jB:=mJ gI B04 1 n [m] [x1,x2,x3,x16,x17] h
def C1s:=gI.K Tryz.func164
def B0S:=gI.S
def C5N:SOk A8 164 B0S:=C1s.sok
def C0f:F6 B0h B0S:=C1s.flat
def W7:FD A8:=⟨px 0X13cf206a3c0250000003723bf7055803b4921803af3001c13901011113e04401482d15a54a14a118182430181904213f2f3a3f73e493f3c01103204401482d12c51c1a01a4f4219f40412184215011a0702441340121294200605110103184951c31f1d41c201314a174214a03a2342,[],[],[.tmp 2],[E3 dL gZ,E3 yT A4m]⟩
def A0r:=W7.R
def xU:AtH:=W7.lj 0 n [m] [x1,x3,x6,x7]
def C0X:AtH:=W7.lj 1 n [m] [x1,x3,x6,x7]
def A0v:=tT [⟨2,4,xU⟩,⟨2,4,C0X⟩]
def B47:=mR A0r W7 A0v n [a0] h
def A0M:=mL W7 A0v 0 n [m] [x1,x3,x6,x7] h
def pE:=mJ W7 A0v 1 n [m] [x1,x3,x6,x7] h
def A8L:=W7.K Tryz.func104
def A0t:=W7.S
def qH:SOk A8 104 A0t:=A8L.sok
def B3o:pY A0r A0t:=A8L.out
def yH:FD A8:=⟨px 0X118f40062130103184918181500062140422e253182,[],[],[.tmp 4],[E3 bK dX,E3 C0l C9R]⟩
def A4y:=yH.R
def B9z:=mR A4y yH (tT []) n [a0,a1] h
def B3A:=yH.K Tryz.func148
def A4S:=yH.S
def C0h:SOk A8 148 A4S:=B3A.sok
def B5z:F6 A4y A4S:=B3A.flat
end
def C7Q {h:B5} {id n sz:Nat} {cs ys:List Cell} (hr:rd h id=rT cs) (hl:cs.length=n*sz) (hy:ys.length=sz) (hsz:0<sz) (hn:n+1<=1073741824) :
  ∃ h',kV (h++[rT ys]) sz (sV id 0 n sz) (sV h.length 0 1 sz)=A4 (sV (h.length+1) 0 (n+1) sz,h')/\rd h' (h.length+1)=rT (cs++ys)/\(∀ i r,i≠id->rd h i=A4 r->rd h' i=A4 r)/\(∀ b,b<=id->b<=h.length->Low b h h'):=by
 refine ⟨(h++[rT ys]).set id A7++[rT (cs++ys)],?_,?_,λi r hi hir=>?_,λb hb hb2=>(((Low.refl hb2).new _).set hb A7).new _⟩
 ·rw [mE (h:=h++[rT ys]) (m:=1) (C5 hr) hl U5 (by omega) rfl hsz hn];simp
 ·have:=U5 (h:=(h++[rT ys]).set id A7) (r:=Row.mk (cs++ys) A5);rw [E6o] at this;simpa using this
 ·refine C5 ?_;rw [B6 (Ne.symm hi)];exact C5 hir
def E0E {h:B5} {jd m sz:Nat} {ys:List Cell} (hy:rd h jd=rT ys) (hyl:ys.length=m*sz) (hsz:0<sz) (hn:m<=1073741824) :
  kV h sz (.c .ns) (sV jd 0 m sz)=A4 (sV h.length 0 m sz,h++[rT ys]):=by
 have h2:Q6 h sz (sV jd 0 m sz)=A4 ys:=by
  simp only [Q6,if_true,iW,hy,E54,E6a,E6e];rw [<-hyl,List.take_length,if_pos ⟨E5V _,rfl⟩]
 have e1:ys.length/sz=m:=by rw [hyl];exact Nat.mul_div_cancel _ hsz
 simp only [kV,h2,E54];rw [e1,if_pos hn]
def W9 (d:Int):Nat:=(max 0 (min d 5)).toNat
def uF (d:Int):W9 d<=5:=by unfold W9;omega
def B2U {d:Int} (h0:0<=d) (h5:d<=5):((W9 d:Nat):Int)=d:=by unfold W9;omega
def D8I (d:Int):(max 0 (min d 5))=((W9 d:Nat):Int):=by unfold W9;omega
def D1 (d:Int):Nat:=2 ^ W9 d
def C7P {n:Nat} (h:n<=5):2 ^ n<=32:=by
 have:=Nat.pow_le_pow_right (n:=2) (by omega) h;simpa using this
def P5 (d:Int):D1 d<=32:=C7P (uF d)
def B2B:[o0]++E5R 32 o0=encI (0::zI 32):=by
 simp [encI,zI]
def toX (t:List Int) (i:Nat):Int:=t.getD i 0
def E1L {t:List Int} {i:Nat} (h:i<t.length):t[i]?=A4 (toX t i):=by
 unfold toX;rw [E5Z,E5P h];rfl
def xQ (n:Int):Bool:=decide (0<=n)&&decide (n<=65535)
def B4o {n:Int} {h:B5}:A1c [iV n] h=A4 (bV (xQ n),h):=by
 refine B7w (n:=0) (h2:=ro h) ?_ rfl;rw [C3e];unfold xQ;by_cases c:0<=n
 ·simp only [esc,c,E55]
 ·simp only [esc,c,E51]
def E4 {d:Int} {t:List Int} (ht:t.length=32):(encI (d::t)).length=33:=by rw [B7];simp [ht]
def C6O {d:Int} {t:List Int} {i:Nat} (ht:t.length=32) (hi:i<32):(encI (d::t))[1+i]?=A4 (.i .i64 (toX t i)):=by
 rw [I1,Nat.add_comm 1 i,E6F,E1L (by omega)];rfl
def B76 {d:Int} {t:List Int} {i:Nat} {v:Int}:(encI (d::t)).set (1+i) (.i .i64 v)=encI (d::t.set i v):=by
 rw [X5,Nat.add_comm 1 i,E6H]
def ldX {h:B5} {id:Nat} {d:Int} {t:List Int} {rw:Bool} (hr:rd h id=A4 ⟨encI (d::t),rw⟩) (ht:t.length=32) {i:Nat} (hi:i<32):B8 h (pV id (1+i))=A4 (iV (toX t i)) :=
 B9 hr (C6O ht hi) (by simp [Cell.isX])
def adX {id i:Nat} (hi:i<32):I3 32 1 (pV id (0+1)) (iV (i:Int))=A4 (pV id (1+i)):=by rw [J5 hi];simp
def cF {d:Int} {t:List Int} {h:B5}:bK [.a (encI (d::t))] h=A4 (iV (W9 d:Nat),h):=by
 have key:∀ g,∃ g',A4A 0 [.a (encI (d::t))] g=A4 (iV (W9 d:Nat),g'):=by
  intro g;have e1:B7T (iV d) (iV 5)=A4 (iV (min d 5)):=by
   simp only [B7T];by_cases h:(5:Int)<d
   ·rw [if_pos h,Int.min_eq_right (by omega)]
   ·rw [if_neg h,Int.min_eq_left (by omega)]
  have e2:C6i (iV 0) (iV (min d 5))=A4 (iV (W9 d:Nat)):=by
   rw [<-D8I];simp only [C6i];by_cases h:(min d 5:Int) > 0
   ·rw [if_pos h,Int.max_eq_right (by omega)]
   ·rw [if_neg h,Int.max_eq_left (by omega)]
  have e3:B8 (g++[rT (encI (d::t))]) (pV g.length 0)=A4 (iV d):=B9 (U5) rfl rfl;rw [B9B];generalize hz:encI (d::t)=z at *;exact ⟨_,by simp only [esc,e3,e1,e2]<;>rfl⟩
 obtain ⟨g',e⟩:=key (ro h);exact B5C e rfl
def D6K {k:Nat} (hk:k<=5):N4 .shl (iV 1) (.c (.i .u64 (k:Int)))=A4 (iV ((2 ^ k:Nat):Int)):=by
 rw [B7Q (by omega)];have h1:Nat.min (k:Int).toNat (IntKind.i64).bits=k:=by
  have:(IntKind.i64).bits=64:=rfl;rw [this,E6c];exact E6R (by omega)
 have h2:=C7P hk;rw [h1,Int.one_mul];have e:(2:Int) ^ k=((2 ^ k:Nat):Int):=by simp
 rw [e];generalize 2 ^ k=y at h2 ⊢;rw [wrap_i64 (by omega) (by omega)]
def C1d {k:Nat} (hk:k<=64):E5U .u64 (k:Int)=(k:Int):=wrap_u64 (by omega) (by omega)
def eV {d:Int} {t:List Int} {h:B5} (ht:t.length=32):dL [.a (encI (d::t))] h=A4 (iV (D1 d:Nat),h):=by
 have key:∀ g,∃ g',A7p 0 [.a (encI (d::t))] g=A4 (iV (D1 d:Nat),g'):=by
  intro g;have hl:=E4 (d:=d) ht;have hd:=λh=>cF (d:=d) (t:=t) (h:=h)
  have e1:=D6K (uF d);have e2:=C1d (k:=W9 d) (by have:=uF d;omega);rw [C3f];unfold D1;generalize encI (d::t)=z at *;exact ⟨_,by simp only [esc,esh,hl,hd,e1,e2]<;>rfl⟩
 obtain ⟨g',e⟩:=key (ro h);exact B7x e rfl
def pD (t:List Int) (i:Nat):Bool:=(E6p i).all λk=>!decide (toX t k=toX t i)
def C6U {d:Int} {t:List Int} {g:B5} {i q:Nat} (ht:t.length=32) (hi:i<32):∀ e k m:Nat,k+e=i->e<m ->
  B1Z q m (iV (i:Int)) (pV g.length 0) (iV (i:Int)) (iV (k:Int)) (g++[rT (encI (d::t))]) =
   A4 (bV ((E6y k e).all λk=>!decide (toX t k=toX t i)),g++[rT (encI (d::t))])
 | e,k,0,_,hm=>by omega
 | 0,k,m+1,hk,hm=>by
  have c0:¬ (k:Int)<i:=by omega
  rw [A34];simp only [esc,c0,List.range'_zero]
 | e+1,k,m+1,hk,hm=>by
  have ih:=C6U (d:=d) (g:=g) (q:=q) ht hi e (k+1) m (by omega) (by omega);have c0:(k:Int)<i:=by omega
  have a1:=adX (id:=g.length) (i:=k) (by omega);have a2:=adX (id:=g.length) (i:=i) (by omega);have l1:=ldX (h:=g++[rT (encI (d::t))]) (id:=g.length) U5 ht (i:=k) (by omega);have l2:=ldX (h:=g++[rT (encI (d::t))]) (id:=g.length) U5 ht (i:=i) (by omega);rw [A34,List.range'_succ,E6B];by_cases c:toX t k=toX t i
  ·rw [decide_eq_true c,E6V,E51];rw [c] at l1;simp only [esc,c0,a1,a2,l1,l2]
  ·rw [decide_eq_false c,E6Q,E55];simp only [esc,c0,a1,a2,l1,l2,c,D3 (show k+1<9223372036854775808 by omega)];exact ih
def B1Y {d:Int} {t:List Int} {i:Nat} {h:B5} (ht:t.length=32) (hi:i<32):yT [.a (encI (d::t)),iV (i:Int)] h=A4 (bV (pD t i),h):=by
 have key:∀ N,i<N->∀ g,∃ g',A4B N [.a (encI (d::t)),iV (i:Int)] g=A4 (bV (pD t i),g'):=by
  intro N hN g;have e:=C6U (d:=d) (g:=g) (q:=N) ht hi i 0 N (by omega) hN;rw [B9C];unfold pD;rw [List.range_eq_range'];exact ⟨_,by simp only [esc];exact e⟩
 obtain ⟨g',e⟩:=key (i+1) (by omega) (ro h);exact B5D e rfl
def X4 (n p b:Nat):List Nat:=(E6p n).filter λk=>k%2 ^ b==p%2 ^ b
def A1k (l:List Nat):List Int:=l.map λ(n:Nat)=>(n:Int)
def B1w (l:List Nat):(A1k l).length=l.length:=by simp [A1k]
def bX (d b:Int):Nat:=(max 0 (min b (W9 d:Nat))).toNat
def E3F (d b:Int):bX d b<=W9 d:=by unfold bX;omega
def plX (d p b:Int):List Nat:=if 0<=p/\p<(D1 d:Nat) then X4 (D1 d) p.toNat (bX d b) else []
def B3r (n s r i:Nat):List Nat:=(E6p n).filter λk=>decide (k<i)&&(k%s==r)
def D6Z {n s r i:Nat} (hs:0<s) (hi:i<n) (hr:i%s=r):B3r n s r (i+s)=B3r n s r i++[i]:=by
 unfold B3r;have e:E6p n=E6p i++(i::E6y (i+1) (n-i-1)):=by
  have e1:E6p n=E6y 0 (i+(n-i-1+1)):=by
   rw [List.range_eq_range'];congr 1;omega
  rw [e1,<-List.range'_append_1,List.range_eq_range',E6e,List.range'_succ]
 rw [e,List.filter_append,List.filter_append,List.filter_cons,List.filter_cons];have h1:(E6p i).filter (λk=>decide (k<i+s)&&(k%s==r))=(E6p i).filter (λk=>decide (k<i)&&(k%s==r)):=by
  refine List.filter_congr λk hk=>?_
  have:=List.mem_range.1 hk;rw [decide_eq_true (show k<i+s by omega),decide_eq_true this]
 have h2:(E6y (i+1) (n-i-1)).filter (λk=>decide (k<i+s)&&(k%s==r))=[]:=by
  rw [List.filter_eq_nil_iff];intro k hk;have hk:=List.mem_range'_1.1 hk;by_cases c:k<i+s
  ·have:k%s≠r:=by
    intro e;have e1:=Nat.div_add_mod k s;have e2:=Nat.div_add_mod i s;rw [e] at e1;rw [hr] at e2;have e4:s*(i/s)<s*(k/s):=by omega
    have e5:i/s<k/s:=Nat.lt_of_mul_lt_mul_left e4;have e6:s*(i/s+1)<=s*(k/s):=Nat.mul_le_mul_left _ e5;rw [Nat.mul_add] at e6;omega
   simp [this]
  ·simp [c]
 have h3:(E6y (i+1) (n-i-1)).filter (λk=>decide (k<i)&&(k%s==r))=[]:=by
  rw [List.filter_eq_nil_iff];intro k hk;have hk:=List.mem_range'_1.1 hk;rw [decide_eq_false (by omega)];simp
 rw [h1,h2,h3,hr];simp [hs]
def D8u {n s r i:Nat} (hi:n<=i):B3r n s r i=(E6p n).filter λk=>k%s==r:=by
 unfold B3r;refine List.filter_congr λk hk=>?_
 have:=List.mem_range.1 hk;rw [decide_eq_true (show k<i by omega),E55]
def C6k {n s r:Nat}:B3r n s r r=[]:=by
 unfold B3r;rw [List.filter_eq_nil_iff];intro k hk;by_cases c:k<r
 ·have:k%s<=k:=Nat.mod_le _ _;have:¬ k%s=r:=by omega
  simp [this]
 ·simp [c]
def D3c (n s r i:Nat):(B3r n s r i).length<=n:=by
 unfold B3r;exact E6w (List.length_filter_le _ _) (by simp)
def C2K {d:Int} {t:List Int} {g:B5} {s r q:Nat} (ht:t.length=32) (hs:0<s) (hs2:s<=32):∀ (e i m:Nat) (h:B5) (id:Nat),D1 d<=i+e->i<=64->e<m->i%s=r->Low (g++[rT (encI (d::t))]).length (g++[rT (encI (d::t))]) h->(g++[rT (encI (d::t))]).length<=id->rd h id=rT (encI (A1k (B3r (D1 d) s r i))) ->
  ∃ v h',A9d q m (pV g.length 0) (iV (s:Int)) (sV id 0 (B3r (D1 d) s r i).length 1) (iV (i:Int)) h=A4 (v,h') /\
   Out g.length h' v 1 ((E6p (D1 d)).filter λk=>k%s==r).length (encI (A1k ((E6p (D1 d)).filter λk=>k%s==r)))
 | e,i,0,h,id,_,_,hm,_,_,_,_=>by omega
 | e,i,m+1,h,id,hi,hi2,hm,hr,hlow,hid,hrd=>by
  have hB:=E4 (d:=d) ht;have s1:=C7 (h:=h) (id:=g.length) (cs:=encI (d::t)) (hlow.rd (by simp)) hB;have hM:=λh=>eV (d:=d) (h:=h) ht
  have C67:=P5 d;have hbl:=D3c (D1 d) s r i;rw [E5T] at hid;rw [B6g];by_cases c:i<D1 d
  ·obtain ⟨e,rfl⟩:∃ e',e=e'+1:=⟨e-1,by omega⟩;have c0:(i:Int)<(D1 d:Nat):=by omega
   have en:=D6Z hs c hr;obtain ⟨h1,a1,a2,a3,a4,a5⟩:=push (ys:=[.i .i64 (i:Int)]) (sz:=1) (n:=(B3r (D1 d) s r i).length) hlow hrd (by rw [B7,B1w];omega) (by rw [E5T];exact hid) rfl (by omega) (by omega);have he:encI (A1k (B3r (D1 d) s r i))++[.i .i64 (i:Int)]=encI (A1k (B3r (D1 d) s r (i+s))):=by rw [en];simp [encI,A1k]
   rw [he] at a2;obtain ⟨v,h',f1,f2⟩:=C2K (q:=q) ht hs hs2 e (i+s) m h1 (h.length+1) (by omega) (by omega) (by omega) (by rw [Nat.add_mod_right];exact hr) a3 a4 a2;have hl1:(B3r (D1 d) s r (i+s)).length=(B3r (D1 d) s r i).length+1:=by rw [en];simp
   rw [hl1] at f1;have ef:E6 [o0] [(0,1,iV (i:Int))]=A4 [.i .i64 (i:Int)]:=rfl;refine ⟨v,h',?_,f2⟩;simp only [esc,s1,hM,c0,ef,a1,A2O (show i+s<9223372036854775808 by omega)];exact f1
  ·have c0:¬ (i:Int)<(D1 d:Nat):=by omega
   rw [D8u (by omega)] at hrd ⊢;refine ⟨_,_,by simp only [esc,s1,hM,c0]<;>rfl,by rw [B7,B1w];omega,_,rfl,by omega,hrd⟩
def amm {b:Int} {d:Nat}:∃ w,B7T (iV b) (iV (d:Int))=A4 (iV w)/\C6i (iV 0) (iV w)=A4 (iV ((max 0 (min b d)).toNat:Nat)):=by
 refine ⟨min b d,?_,?_⟩
 ·simp only [B7T];by_cases h:(d:Int)<b
  ·rw [if_pos h,Int.min_eq_right (by omega)]
  ·rw [if_neg h,Int.min_eq_left (by omega)]
 ·simp only [C6i];by_cases h:(min b d:Int) > 0
  ·rw [if_pos h,Int.max_eq_right (by omega),Int.toNat_of_nonneg (by omega)]
  ·rw [if_neg h,Int.max_eq_left (by omega)];rfl
def A9c {d:Int} {t:List Int} {p b:Int} {h:B5} (ht:t.length=32) :
  tK [.a (encI (d::t)),iV p,iV b] h=A4 (sV h.length 0 (plX d p b).length 1,h++[rT (encI (A1k (plX d p b)))]):=by
 have key:∀ N,64<N->∀ g,∃ v g',A1Z N [.a (encI (d::t)),iV p,iV b] g=A4 (v,g')/\Out g.length g' v 1 (plX d p b).length (encI (A1k (plX d p b))):=by
  intro N hN g;have hB:=E4 (d:=d) ht;have hM:=λh=>eV (d:=d) (h:=h) ht
  have hD:=λh=>cF (d:=d) (t:=t) (h:=h)
  have C67:=P5 d;rw [B65];unfold plX;by_cases c1:p<0
  ·rw [if_neg (by omega)];refine ⟨sV (g.length+2) 0 0 1,g++[rT (encI (d::t)),rT [],rT []],?_,rfl,g.length+2,rfl,by omega,by simp [encI,A1k]⟩;generalize encI (d::t)=z at *;simp only [esc,c1]
  ·by_cases c2:((D1 d:Nat):Int)<=p
   ·rw [if_neg (by omega)];refine ⟨sV (g.length+2) 0 0 1,g++[rT (encI (d::t)),rT [],rT []],?_,rfl,g.length+2,rfl,by omega,by simp [encI,A1k]⟩;generalize encI (d::t)=z at *;simp only [esc,esh,Nat.reduceAdd,hB,hM,c1,c2]
   ·rw [if_pos (by omega)];obtain ⟨p,rfl⟩:∃ n:Nat,p=n:=⟨p.toNat,by omega⟩;rw [E6c];obtain ⟨w,m1,m2⟩:=amm (b:=b) (d:=W9 d);have hbx:=E3F d b;have hdl:=uF d;change C6i _ _=A4 (iV ((bX d b:Nat):Int)) at m2;have e1:=D6K (k:=bX d b) (by omega);have e2:=C1d (k:=bX d b) (by omega);have hp0:0<2 ^ bX d b:=Nat.pow_pos (by omega);have hp1:=C7P (show bX d b<=5 by omega);have e3:N4 .rem (iV (p:Int)) (iV ((2 ^ bX d b:Nat):Int))=A4 (iV ((p%2 ^ bX d b:Nat):Int)):=by
     rw [A2G (by omega) (by omega)];simp
    have hpm:p%2 ^ bX d b<2 ^ bX d b:=Nat.mod_lt _ hp0;unfold X4;generalize 2 ^ bX d b=s at *;obtain ⟨v,g',f1,f2⟩:=C2K (g:=g) (d:=d) (t:=t) (q:=N) (s:=s) (r:=p%s) ht hp0 hp1 (D1 d) (p%s) N (g++[rT (encI (d::t)),rT [],rT []]) (g.length+2) (by omega) (by omega) (by omega) (Nat.mod_mod _ _)
     (by have:=(Low.refl (h:=g++[rT (encI (d::t))]) (E5V _)).new [rT [],rT []];simpa using this) (by simp) (by rw [C6k];simp [encI,A1k])
    rw [C6k] at f1;refine ⟨v,g',?_,f2⟩;generalize encI (d::t)=z at *;simp only [esc,esh,Nat.reduceAdd,hB,hM,hD,c1,c2,m1,m2,e1,e2,e3] at f1 ⊢;exact f1
 obtain ⟨v,g',e,ho⟩:=key (h.length+65) (by omega) (ro h);exact B5A e (by simpa [F7] using ho) (by simp)
def C87 {l:List Nat} {i:Nat} (hi:i<l.length):(encI (A1k l))[i]?=A4 (.i .i64 ((l[i]:Nat):Int)):=by
 rw [I1];unfold A1k;rw [List.getElem?_map,E5P hi];rfl
def A8F (t:List Int) (l:List Nat) (no:Int):Bool:=l.all λk=>decide (toX t k=no)
def C8k {d no:Int} {t:List Int} {g:B5} {v:Val} {l:List Nat} {q:Nat} (ht:t.length=32) (hl:∀ k∈l,k<32) (hv:Has g v 1 l.length (encI (A1k l))) (hll:l.length<9223372036854775807):∀ e i m:Nat,i+e=l.length->e<m ->
  B10 q m (iV no) (pV g.length 0) v (iV (l.length:Nat)) (iV (i:Int)) (g++[rT (encI (d::t))])=A4 (bV (A8F t (l.drop i) no),g++[rT (encI (d::t))])
 | e,i,0,_,hm=>by omega
 | 0,i,m+1,hi,hm=>by
  have c0:¬ (i:Int)<(l.length:Nat):=by omega
  rw [A35,E56 (by omega)];simp only [esc,c0,A8F]
 | e+1,i,m+1,hi,hm=>by
  have ih:=C8k (d:=d) (no:=no) (q:=q) ht hl hv hll e (i+1) m (by omega) (by omega);have c0:(i:Int)<(l.length:Nat):=by omega
  obtain ⟨id,off,ev,hid,k1,k2⟩:=(hv.more [rT (encI (d::t))]).sl (by omega);have hx:=k1 i _ (C87 (by omega));have eb:D9 1 v (iV (i:Int))=A4 (pV id (off+i)):=by rw [ev,C9 (by omega)];simp
  have hk:=hl l[i] (E6v (by omega));have a1:=adX (id:=g.length) (i:=l[i]) hk;have l1:=ldX (h:=g++[rT (encI (d::t))]) (id:=g.length) U5 ht (i:=l[i]) hk;rw [A35,E5X (by omega:i<l.length),A8F,E6B];rw [A8F] at ih;by_cases c:toX t l[i]=no
  ·rw [decide_eq_true c,E55];rw [c] at l1;simp only [esc,c0,eb,hx,a1,l1,D3 (show i+1<9223372036854775808 by omega)];exact ih
  ·rw [decide_eq_false c,E51];simp only [esc,c0,eb,hx,a1,l1,c]
def C7f {d no:Int} {t:List Int} {h:B5} {v:Val} {l:List Nat} (ht:t.length=32) (hl:∀ k∈l,k<32) (hv:Has h v 1 l.length (encI (A1k l))) (hll:l.length<9223372036854775807) :
  A4U [.a (encI (d::t)),v,iV no] h=A4 (bV (A8F t l no),h):=by
 have key:∀ N,l.length<N->∀ g,Has g v 1 l.length (encI (A1k l))->∃ g',A4C N [.a (encI (d::t)),v,iV no] g=A4 (bV (A8F t l no),g'):=by
  intro N hN g hv;have e:=C8k (d:=d) (no:=no) (q:=N) ht hl hv hll l.length 0 N (by omega) hN;rw [E6a] at e;rw [B9D];exact ⟨_,by simp only [esc,hv.len];exact e⟩
 obtain ⟨g',e⟩:=key (l.length+1) (by omega) (ro h) hv.ro;exact B5E e rfl
def D5w {n p b:Nat} (hn:n<=32):∀ k∈X4 n p b,k<32:=by
 intro k hk;have:=List.mem_range.1 (List.mem_filter.1 hk).1;omega
def C7N (n p b:Nat):(X4 n p b).length<=n:=E6w (List.length_filter_le _ _) (by simp)
def D9M {d:Int} {p b:Nat} (hp:p<D1 d) (hb:b<=W9 d):plX d p b=X4 (D1 d) p b:=by
 unfold plX;have:bX d b=b:=by unfold bX;omega
 rw [if_pos ⟨by omega,by omega⟩,this,E6c]
def C3V (n:Nat) (t:List Int) (p b:Nat):Bool:=!decide (toX t p=0)&&A8F t (X4 n p b) (toX t p)
def bZ (n:Nat) (t:List Int) (p:Nat):Nat->Nat->Nat
 | b,0=>b
 | b,e+1=>bif C3V n t p b then b else bZ n t p (b+1) e
def cO (d:Int) (t:List Int) (p:Nat):Nat:=bZ (D1 d) t p 0 (W9 d)
def C0D {d:Int} {t:List Int} {g:B5} {p q:Nat} (ht:t.length=32) (hp:p<D1 d):∀ (e b m:Nat) (h:B5),b+e=W9 d->e<m->Low (g++[rT (encI (d::t))]).length (g++[rT (encI (d::t))]) h ->
  ∃ h',B4n q m (iV (p:Int)) (pV g.length 0) (iV (W9 d:Nat)) (iV (b:Int)) h=A4 (iV (bZ (D1 d) t p b e:Nat),h')
 | e,b,0,h,_,hm,_=>by omega
 | 0,b,m+1,h,hb,hm,hlow=>by
  have e0:b=W9 d:=by omega
  subst e0;have c0:¬ ((W9 d:Nat):Int)<(W9 d:Nat):=by omega
  have hB:=E4 (d:=d) ht;have s1:=C7 (h:=h) (id:=g.length) (cs:=encI (d::t)) (hlow.rd (by simp)) hB;have hD:=λh=>cF (d:=d) (t:=t) (h:=h)
  rw [A6r];generalize encI (d::t)=z at *;exact ⟨_,by simp only [esc,c0,s1,hD,bZ]<;>rfl⟩
 | e+1,b,m+1,h,hb,hm,hlow=>by
  have C67:=P5 d;have hdl:=uF d;have c0:(b:Int)<(W9 d:Nat):=by omega
  have hB:=E4 (d:=d) ht;have hrd:rd h g.length=rT (encI (d::t)):=hlow.rd (by simp);have s1:=C7 (h:=h) (id:=g.length) (cs:=encI (d::t)) hrd hB;have a1:=adX (id:=g.length) (i:=p) (by omega);have l1:=ldX (h:=h) (id:=g.length) hrd ht (i:=p) (by omega);have hP:=A9c (d:=d) (p:=p) (b:=b) (h:=h) ht;rw [D9M hp (by omega)] at hP;have hq:=U9 ((Grows.rfl' (h:=h)).new (encI (A1k (X4 (D1 d) p b)))) (v:=sV h.length 0 (X4 (D1 d) p b).length 1);have hW:=C7f (d:=d) (no:=toX t p) (h:=h++[rT (encI (A1k (X4 (D1 d) p b)))]) (v:=sV h.length 0 (X4 (D1 d) p b).length 1) ht (D5w (p:=p) (b:=b) C67) (Has.row (rw:=A5) U5 (by rw [B7,B1w];omega) (cG _)) (by have:=C7N (D1 d) p b;omega);have l2:=ldX (h:=h++[rT (encI (A1k (X4 (D1 d) p b)))]) (id:=g.length) (C5 hrd) ht (i:=p) (by omega);rw [A6r,bZ];unfold C3V;by_cases cz:toX t p=0
  ·obtain ⟨h',ih⟩:=C0D (q:=q) ht hp e (b+1) m h (by omega) (by omega) hlow;rw [decide_eq_true cz,E6V,E51,cond_false];rw [cz] at l1;refine ⟨h',?_⟩;generalize encI (d::t)=z at *;simp only [esc,c0,a1,l1,D3 (show b+1<9223372036854775808 by omega)];exact ih
  ·rw [decide_eq_false cz,E6Q,E55];cases cw:A8F t (X4 (D1 d) p b) (toX t p) with
   | true =>
    rw [cw] at hW;rw [cond_true];generalize encI (d::t)=z at *;exact ⟨_,by simp only [esc,c0,a1,l1,cz,s1,hP,hq,hW]<;>rfl⟩
   | false =>
    rw [cw] at hW;obtain ⟨h',ih⟩:=C0D (q:=q) ht hp e (b+1) m (h++[rT (encI (A1k (X4 (D1 d) p b)))]) (by omega) (by omega) (hlow.new _);rw [cond_false];refine ⟨h',?_⟩;generalize encI (d::t)=z at *;simp only [esc,c0,a1,l1,cz,s1,hP,hq,hW,D3 (show b+1<9223372036854775808 by omega)];exact ih
def D8v (d:Int) (t:List Int) (p:Int):Nat:=if 0<=p/\p<(D1 d:Nat) then cO d t p.toNat else 0
def C9o {d:Int} {t:List Int} {p:Int} {h:B5} (ht:t.length=32):A7Q [.a (encI (d::t)),iV p] h=A4 (iV (D8v d t p:Nat),h):=by
 have key:∀ N,5<N->∀ g,∃ g',A7o N [.a (encI (d::t)),iV p] g=A4 (iV (D8v d t p:Nat),g'):=by
  intro N hN g;have hB:=E4 (d:=d) ht;have hM:=λh=>eV (d:=d) (h:=h) ht
  have hD:=λh=>cF (d:=d) (t:=t) (h:=h)
  have hdl:=uF d;rw [C3d];unfold D8v;by_cases c1:p<0
  ·rw [if_neg (by omega)];generalize encI (d::t)=z at *;exact ⟨_,by simp only [esc,c1]<;>rfl⟩
  ·by_cases c2:((D1 d:Nat):Int)<=p
   ·rw [if_neg (by omega)];generalize encI (d::t)=z at *;exact ⟨_,by simp only [esc,esh,hB,hM,c1,c2]<;>rfl⟩
   ·rw [if_pos (by omega)];obtain ⟨p,rfl⟩:∃ n:Nat,p=n:=⟨p.toNat,by omega⟩;rw [E6c];obtain ⟨h',e⟩:=C0D (g:=g) (q:=N) ht (show p<D1 d by omega) (W9 d) 0 N (g++[rT (encI (d::t))]) (by omega) (by omega) (Low.refl (E5V _));unfold cO;refine ⟨h',?_⟩;generalize encI (d::t)=z at *;simp only [esc,esh,hB,hM,hD,c1,c2];exact e
 obtain ⟨g',e⟩:=key (h.length+6) (by omega) (ro h);exact B7v e rfl
def E0I {d:Int} {t:List Int} {p:Nat} (hp:p<D1 d):D8v d t p=cO d t p:=by
 unfold D8v;rw [if_pos ⟨by omega,by omega⟩,E6c]
def uE (n:Nat) (t:List Int) (no:Int):Nat:=((E6p n).filter λk=>decide (toX t k=no)).length
def D3t {n:Nat} {t:List Int} {no:Int}:uE (n+1) t no=uE n t no+(if toX t n=no then 1 else 0):=by
 unfold uE;rw [List.range_succ,List.filter_append,E5T,List.filter_cons];by_cases c:toX t n=no<;>simp [c]
def D67 {n:Nat} {t:List Int} {no:Int}:uE n t no<=n:=E6w (List.length_filter_le _ _) (by simp)
def C6G {d no:Int} {t:List Int} {g:B5} {n q:Nat} (ht:t.length=32) (hn:n<=32):∀ e i m:Nat,i+e=n->e<m ->
  B1X q m (iV no) (pV g.length 0) (iV (uE i t no:Nat)) (iV (n:Int)) (iV (i:Int)) (g++[rT (encI (d::t))])=A4 (iV (uE n t no:Nat),g++[rT (encI (d::t))])
 | e,i,0,_,hm=>by omega
 | 0,i,m+1,hi,hm=>by
  have e0:i=n:=by omega
  subst e0;have c0:¬ (i:Int)<i:=by omega
  rw [A33];simp only [esc,c0]
 | e+1,i,m+1,hi,hm=>by
  have ih:=C6G (d:=d) (no:=no) (g:=g) (q:=q) ht hn e (i+1) m (by omega) (by omega);have c0:(i:Int)<n:=by omega
  have a1:=adX (id:=g.length) (i:=i) (by omega);have l1:=ldX (h:=g++[rT (encI (d::t))]) (id:=g.length) U5 ht (i:=i) (by omega);have hc:=D67 (n:=i) (t:=t) (no:=no);rw [D3t] at ih;rw [A33];generalize uE i t no=C at *;by_cases c:toX t i=no
  ·rw [if_pos c] at ih;rw [c] at l1;simp only [esc,c0,a1,l1,A32,D3 (show C+1<9223372036854775808 by omega),D3 (show i+1<9223372036854775808 by omega)];exact ih
  ·rw [if_neg c,E6E] at ih;simp only [esc,c0,a1,l1,c,A32,D3 (show i+1<9223372036854775808 by omega)];exact ih
def C7d {d no:Int} {t:List Int} {h:B5} (ht:t.length=32):A4T [.a (encI (d::t)),iV no] h=A4 (iV (uE (D1 d) t no:Nat),h):=by
 have key:∀ N,32<N->∀ g,∃ g',A4z N [.a (encI (d::t)),iV no] g=A4 (iV (uE (D1 d) t no:Nat),g'):=by
  intro N hN g;have hB:=E4 (d:=d) ht;have hM:=λh=>eV (d:=d) (h:=h) ht
  have hm:=P5 d;have e:=C6G (d:=d) (no:=no) (g:=g) (q:=N) ht hm (D1 d) 0 N (by omega) (by omega);rw [show uE 0 t no=0 from rfl] at e;rw [B9A];generalize encI (d::t)=z at *;exact ⟨_,by simp only [esc,esh,hB,hM];exact e⟩
 obtain ⟨g',e⟩:=key (h.length+33) (by omega) (ro h);exact B5B e rfl
def A4h (d:Int) (t:List Int) (i:Nat):Bool:=decide ((X4 (D1 d) i (cO d t i)).length=uE (D1 d) t (toX t i))
def A38 (d:Int) (t:List Int) (i:Nat):Bool:=!decide (toX t i=0)&&(xQ (toX t i)&&(pD t i||A4h d t i))
def uT (d:Int) (t:List Int) (i:Nat):Int:=bif A38 d t i then toX t i else 0
def sG (d:Int) (t:List Int) (k:Nat):List Int:=(E6p k).map (uT d t)++zI (32-k)
def A0a {d:Int} {t:List Int} {k:Nat} (hk:k<=32):(sG d t k).length=32:=by simp [sG,zI];omega
def D0v {d:Int} {t:List Int}:sG d t 0=zI 32:=rfl
def D0u {d:Int} {t:List Int} {k:Nat} (hk:k<32):sG d t (k+1)=(sG d t k).set k (uT d t k):=by
 unfold sG;have e:zI (32-k)=0::zI (32-(k+1)):=by
  unfold zI;rw [show 32-k=(32-(k+1))+1 by omega,E6k]
 rw [e,E6u _ _ (by simp),List.range_succ,E6N,E5Y];simp
def D0t {d:Int} {t:List Int} {k:Nat} (hk:k<32) (hf:uT d t k=0):sG d t (k+1)=sG d t k:=by
 unfold sG;have e:zI (32-k)=0::zI (32-(k+1)):=by
  unfold zI;rw [show 32-k=(32-(k+1))+1 by omega,E6k]
 rw [e,List.range_succ,E6N,E5Y];simp [hf]
def C6W {d:Int} {t:List Int} {g:B5} {q:Nat} (ht:t.length=32):∀ (e i m:Nat) (h:B5),i+e=D1 d->e<m->Low (g++[rT (encI (d::t)),rT (encI (0::zI 32))]).length (g++[rT (encI (d::t)),rT (encI (0::zI 32))]) h->rd h (g.length+2)=rT (encI (d::sG d t i)) ->
  ∃ h',A1q q m (pV g.length 0) (pV (g.length+1) 0) (pV (g.length+2) 0) (iV (D1 d:Nat)) (iV (i:Int)) h=A4 (.a (encI (d::sG d t (D1 d))),h')
 | e,i,0,h,_,hm,_,_=>by omega
 | 0,i,m+1,h,hi,hm,hlow,hr=>by
  have e0:i=D1 d:=by omega
  subst e0;have c0:¬ ((D1 d:Nat):Int)<(D1 d:Nat):=by omega
  have hF:=E4 (d:=d) (A0a (d:=d) (t:=t) (P5 d));have hz:(encI (0::zI 32)).length=33:=E4 (d:=0) J6;have hr1:rd h (g.length+1)=rT (encI (0::zI 32)):=hlow.rd (by simp);have s1:=C7 (h:=h) (id:=g.length+2) hr hF;have s2:=storeAll (h:=h) (id:=g.length+1) (xs:=encI (d::sG d t (D1 d))) hr1 hz hF;have s3:=C7 (h:=h.set (g.length+1) (rT (encI (d::sG d t (D1 d))))) (id:=g.length+1) (C6 (C8 hr1)) hF;rw [A89];generalize encI (d::sG d t (D1 d))=z at *;exact ⟨_,by simp only [esc,c0,s1,s2,s3]<;>rfl⟩
 | e+1,i,m+1,h,hi,hm,hlow,hr=>by
  have C67:=P5 d;have c0:(i:Int)<(D1 d:Nat):=by omega
  have hB:=E4 (d:=d) ht;have hrd:rd h g.length=rT (encI (d::t)):=hlow.rd (by simp);have s1:=C7 (h:=h) (id:=g.length) (cs:=encI (d::t)) hrd hB;have a1:=adX (id:=g.length) (i:=i) (by omega);have l1:=ldX (h:=h) (id:=g.length) hrd ht (i:=i) (by omega);have hFi:=λh=>B4o (n:=toX t i) (h:=h)
  have hFs:=λh=>B1Y (d:=d) (t:=t) (i:=i) (h:=h) ht (by omega)
  have w1:=D3 (show i+1<9223372036854775808 by omega);have hk:i<32:=by omega
  have skip:uT d t i=0->∀ h2,Low (g++[rT (encI (d::t)),rT (encI (0::zI 32))]).length (g++[rT (encI (d::t)),rT (encI (0::zI 32))]) h2->rd h2 (g.length+2)=rT (encI (d::sG d t i)) ->
    ∃ h',A1q q m (pV g.length 0) (pV (g.length+1) 0) (pV (g.length+2) 0) (iV (D1 d:Nat)) (iV ((i+1:Nat):Int)) h2=A4 (.a (encI (d::sG d t (D1 d))),h'):=by
   intro hf h2 hlow2 hr2;exact C6W (q:=q) ht e (i+1) m h2 (by omega) (by omega) hlow2 (by rw [D0t hk hf];exact hr2)
  have a3:=adX (id:=g.length+2) (i:=i) hk;have put:uT d t i=toX t i->∀ h2,Low (g++[rT (encI (d::t)),rT (encI (0::zI 32))]).length (g++[rT (encI (d::t)),rT (encI (0::zI 32))]) h2->rd h2 (g.length+2)=rT (encI (d::sG d t i)) ->
    ∃ h3,I5 h2 (pV (g.length+2) (1+i)) (iV (toX t i))=A4 h3/\∃ h',A1q q m (pV g.length 0) (pV (g.length+1) 0) (pV (g.length+2) 0) (iV (D1 d:Nat)) (iV ((i+1:Nat):Int)) h3=A4 (.a (encI (d::sG d t (D1 d))),h'):=by
   intro hf h2 hlow2 hr2;have hF:=E4 (d:=d) (A0a (d:=d) (t:=t) (k:=i) (by omega));have t1:=G8 (x:=.i .i64 (toX t i)) (off:=1+i) hr2 (by rw [hF];omega);rw [B76,<-hf,<-D0u hk,hf] at t1;refine ⟨_,t1,C6W (q:=q) ht e (i+1) m _ (by omega) (by omega) (hlow2.set (by simp) _) (C6 (C8 hr2))⟩
  rw [A89];by_cases cz:toX t i=0
  ·have hf:uT d t i=0:=by unfold uT A38;rw [decide_eq_true cz];rfl
   obtain ⟨h',ih⟩:=skip hf h hlow hr;rw [cz] at l1;refine ⟨h',?_⟩;generalize encI (d::t)=z at *;simp only [esc,c0,a1,l1,jB,w1];exact ih
  ·cases cf:xQ (toX t i) with
   | false =>
    rw [cf] at hFi;have hf:uT d t i=0:=by unfold uT A38;rw [cf,E51,E6T,cond_false]
    obtain ⟨h',ih⟩:=skip hf h hlow hr;refine ⟨h',?_⟩;generalize encI (d::t)=z at *;simp only [esc,c0,a1,l1,cz,hFi,jB,w1];exact ih
   | true =>
    rw [cf] at hFi;cases cs:pD t i with
    | true =>
     rw [cs] at hFs;have hf:uT d t i=toX t i:=by unfold uT A38;rw [cf,cs,decide_eq_false cz];rfl
     obtain ⟨h3,st,h',ih⟩:=put hf h hlow hr;refine ⟨h',?_⟩;generalize encI (d::t)=z at *;simp only [esc,c0,a1,l1,cz,hFi,s1,hFs,a3,st,jB,w1];exact ih
    | false =>
     rw [cs] at hFs;have hBi:=λh=>C9o (d:=d) (t:=t) (p:=(i:Int)) (h:=h) ht
     rw [E0I (by omega)] at hBi;have hbl:cO d t i<=W9 d:=by
      have:∀ e b,bZ (D1 d) t i b e<=b+e:=by
       intro e
       induction e with
       | zero=>intro b;exact E5V _
       | succ e ih =>
        intro b;unfold bZ;cases C3V (D1 d) t i b
        ·rw [cond_false];have:=ih (b+1);omega
        ·rw [cond_true];omega
      have:=this (W9 d) 0;unfold cO;omega
     have hP:=A9c (d:=d) (p:=(i:Int)) (b:=(cO d t i:Nat)) (h:=h) ht;rw [D9M (by omega) hbl] at hP;have hq:=U9 ((Grows.rfl' (h:=h)).new (encI (A1k (X4 (D1 d) i (cO d t i))))) (v:=sV h.length 0 (X4 (D1 d) i (cO d t i)).length 1);have hC:=λh=>C7d (d:=d) (no:=toX t i) (h:=h) ht
     have ew:decide (((X4 (D1 d) i (cO d t i)).length:Int)=((uE (D1 d) t (toX t i):Nat):Int))=A4h d t i:=by
      unfold A4h;by_cases c:(X4 (D1 d) i (cO d t i)).length=uE (D1 d) t (toX t i)
      ·rw [decide_eq_true c,decide_eq_true (by omega)]
      ·rw [decide_eq_false c,decide_eq_false (by omega)]
     have hlow2:=hlow.new [rT (encI (A1k (X4 (D1 d) i (cO d t i))))];have hr2:rd (h++[rT (encI (A1k (X4 (D1 d) i (cO d t i))))]) (g.length+2)=rT (encI (d::sG d t i)):=C5 hr;cases cw:A4h d t i with
     | true =>
      rw [cw] at ew;have hf:uT d t i=toX t i:=by unfold uT A38;rw [cf,cs,cw,decide_eq_false cz];rfl
      obtain ⟨h3,st,h',ih⟩:=put hf _ hlow2 hr2;refine ⟨h',?_⟩;generalize encI (d::t)=z at *;simp only [esc,c0,a1,l1,cz,hFi,s1,hFs,hBi,hP,hq,hC,ew,a3,st,jB,w1];exact ih
     | false =>
      rw [cw] at ew;have hf:uT d t i=0:=by unfold uT A38;rw [cf,cs,cw,decide_eq_false cz];rfl
      obtain ⟨h',ih⟩:=skip hf _ hlow2 hr2;refine ⟨h',?_⟩;generalize encI (d::t)=z at *;simp only [esc,c0,a1,l1,cz,hFi,s1,hFs,hBi,hP,hq,hC,ew,jB,w1];exact ih
def C9k (d:Int) (t:List Int):List Int:=if 0<=d/\d<=5 then d::sG d t (D1 d) else 0::zI 32
def D1W {d:Int} {t:List Int} {h:B5} (ht:t.length=32):B0S [.a (encI (d::t))] h=A4 (.a (encI (C9k d t)),h):=by
 have key:∀ N,32<N->∀ g,∃ g',B0h N [.a (encI (d::t))] g=A4 (.a (encI (C9k d t)),g'):=by
  intro N hN g;have hB:=E4 (d:=d) ht;have hz:(encI (0::zI 32)).length=33:=E4 (d:=0) J6;have hM:=λh=>eV (d:=d) (h:=h) ht
  have hD:=λh=>cF (d:=d) (t:=t) (h:=h)
  have l0:(encI (d::t))[0]?=A4 (.i .i64 d):=rfl;have haf:E6 (encI (0::zI 32)) []=A4 (encI (0::zI 32)):=rfl;rw [C48,B2B];unfold C9k;by_cases c:0<=d/\d<=5
  ·rw [if_pos c];have hd:=B2U c.1 c.2;rw [hd] at hD;have ef:E6 (encI (0::zI 32)) [(0,1,iV d)]=A4 (encI (d::zI 32)):=by
    have e1:(0+1<=(encI (0::zI 32)).length):=by rw [hz];omega
    simp only [E6,cells?];rw [if_pos ⟨rfl,e1⟩];rfl
   have hz2:(encI (d::zI 32)).length=33:=E4 (d:=d) J6;obtain ⟨h',e⟩:=C6W (g:=g) (d:=d) (t:=t) (q:=N) ht (D1 d) 0 N (g++[rT (encI (d::t)),rT (encI (0::zI 32)),rT (encI (d::zI 32))]) (by omega) (by have:=P5 d;omega)
    (by have:=(Low.refl (h:=g++[rT (encI (d::t)),rT (encI (0::zI 32))]) (E5V _)).new [rT (encI (d::zI 32))];simpa using this) (by rw [D0v];simp)
   refine ⟨h',?_⟩;generalize encI (d::zI 32)=z2 at *;generalize encI (0::zI 32)=z at *;generalize encI (d::t)=y at *;simp only [esc,esh,Nat.reduceAdd,hB,hz,l0,hM,hD,ef,hz2];exact e
  ·rw [if_neg c];have cd:¬ d=((W9 d:Nat):Int):=by unfold W9;omega
   generalize encI (0::zI 32)=z at *;generalize encI (d::t)=y at *;exact ⟨_,by simp only [esc,esh,Nat.reduceAdd,hB,hz,l0,hD,cd,haf]<;>rfl⟩
 obtain ⟨g',e⟩:=key (h.length+33) (by omega) (ro h);exact C0f e (by simp)
def D3G {d:Int} {t:List Int}:(C9k d t).length=33:=by
 unfold C9k;split
 ·rw [E52,A0a (P5 d)]
 ·rw [E52,J6]
def uO (d:List Int):List UInt8:=(d.map (C4 2)).flatten
def rY {d:List Int}:(uO d).length=2*d.length:=by
 induction d with
 | nil=>rfl
 | cons x d ih=>simp only [uO,E6X,List.flatten_cons,E5T,Q8,E52] at ih ⊢;omega
def D0L {d:List Int} {x:Int}:uO (d++[x])=uO d++C4 2 x:=by simp [uO]
def magX:List UInt8:=[105,100,120,33]
def A0B (d:Int):List UInt8:=magX++C4 1 d++zeros 27
def rW {d:Int}:(A0B d).length=32:=by simp [A0B,magX]
def gE (d:Int) (t:List Int):List UInt8:=P7 256 (A0B d++uO t)
def mY {d:Int} {t:List Int} (ht:t.length=32):(gE d t).length=256:=I6 (by rw [E5T,rW,rY];omega)
def D5u {n k:Nat} {l:List UInt8} (h:l.length+k<=n):P7 n (l++zeros k)=P7 n l:=by
 unfold P7 zeros;rw [E5Y,List.replicate_append_replicate,E5T,E6n]
 congr 2;omega
def okX (d:Int) (t:List Int):Bool:=decide (0<=d)&&(decide (d<=5)&&t.all xQ)
def D0D {d:Int} {t:List Int} {g:B5} {y:List Cell} {q:Nat} (ht:t.length=32) (hyl:y.length=33):∀ e i m:Nat,i+e=32->e<m ->
  ∃ h',B8r q m (pV (g.length+1) 0) (pV (g.length+3) 0) (.a (encI t)) (iV (i:Int)) (g++[rT y,rT (B4 (zeros 256)),rT (B4 magX),rT (B4 (P7 256 (A0B d++uO (t.take i))))]) =
   A4 (.t [.a (B4 (bif (t.drop i).all xQ then gE d t else zeros 256)),.c (.i .i64 (bif (t.drop i).all xQ then 0 else 1))],h')
 | e,i,0,_,hm=>by omega
 | 0,i,m+1,hi,hm=>by
  have e0:i=32:=by omega
  subst e0;have c0:¬ ((32:Nat):Int)<32:=by omega
  have hz:(B4 (zeros 256)).length=256:=by rw [A9];exact zeros_length
  have hB:(B4 (gE d t)).length=256:=by rw [A9];exact mY ht
  have eB:P7 256 (A0B d++uO t)=gE d t:=rfl;rw [A9e,E53 (by omega),E56 (by omega),List.all_nil,cond_true,cond_true,eB];generalize gE d t=B at *;generalize B4 magX=mg at *;generalize zeros 256=z at *;exact ⟨_,by simp only [esc,esh,c0,hz,hB]<;>rfl⟩
 | e+1,i,m+1,hi,hm=>by
  obtain ⟨h',ih⟩:=D0D (d:=d) (g:=g) (q:=q) ht hyl e (i+1) m (by omega) (by omega);have c0:(i:Int)<32:=by omega
  have hz:(B4 (zeros 256)).length=256:=by rw [A9];exact zeros_length
  have haf:E6 (E5R 256 (Cell.i .u8 0)) []=A4 (E5R 256 (Cell.i .u8 0)):=rfl;rw [I9] at haf;have hx:A45 32 (.a (encI t)) (iV (i:Int))=A4 (iV t[i]):=by
   rw [B8m (by omega),I1,E5P (by omega)];rfl
  have hF:=λh=>B4o (n:=t[i]) (h:=h)
  have hnl:(A0B d++uO (t.take i)).length=32+2*i:=by rw [E5T,rW,rY,E6l];omega
  have hP0:(P7 256 (A0B d++uO (t.take i))).length=256:=I6 (by omega);have hp:(B4 (P7 256 (A0B d++uO (t.take i)))).length=256:=by rw [A9,hP0]
  have hW:=λh=>Z5 (h:=h) (l:=P7 256 (A0B d++uO (t.take i))) hP0 (a:=((32+2*i:Nat):Int)) (w:=2) (v:=t[i])
  have ew:=jP (l:=A0B d++uO (t.take i)) (a:=32+2*i) (w:=2) (v:=t[i]) (by omega) (by omega) (by omega) (by omega);rw [hnl,E6D,show zeros 0=[] from rfl,E6m,E5Y,<-D0L,<-E58 (by omega)] at ew;rw [show ((2:Nat):Int)=2 from rfl] at ew;rw [ew] at hW;have hp2:(B4 (P7 256 (A0B d++uO (t.take (i+1))))).length=256:=by rw [A9,I6 (by rw [E5T,rW,rY,E6l];omega)]
  have w1:E5U .i64 (2*(i:Int))=((2*i:Nat):Int):=by rw [wrap_i64 (by omega) (by omega)];omega
  have w2:E5U .i64 (32+((2*i:Nat):Int))=((32+2*i:Nat):Int):=by rw [wrap_i64 (by omega) (by omega)];omega
  rw [A9e,I9,E5X (by omega:i<t.length),E6B];generalize P7 256 (A0B d++uO (t.take (i+1)))=P1 at *;generalize P7 256 (A0B d++uO (t.take i))=P0 at *;generalize gE d t=B at *;generalize B4 magX=mg at *;generalize zeros 256=z at *;cases c:xQ t[i] with
  | false =>
   rw [c] at hF;rw [E51,cond_false,cond_false];exact ⟨_,by simp only [esc,esh,c0,hx,hF,haf,hz]<;>rfl⟩
  | true =>
   rw [c] at hF;rw [E55];refine ⟨h',?_⟩;simp only [esc,esh,c0,hx,hF,hp,w1,w2,hW,hp2,D3 (show i+1<9223372036854775808 by omega)];exact ih
def B8q {d:Int} {t:List Int} {h:B5} (ht:t.length=32):A3C [.a (encI (d::t))] h=A4 (.t [.a (B4 (bif okX d t then gE d t else zeros 256)),.c (.i .i64 (bif okX d t then 0 else 1))],h):=by
 have key:∀ N,32<N->∀ g,∃ g',B0j N [.a (encI (d::t))] g=A4 (.t [.a (B4 (bif okX d t then gE d t else zeros 256)),.c (.i .i64 (bif okX d t then 0 else 1))],g'):=by
  intro N hN g;have hB:=E4 (d:=d) ht;have hz:(B4 (zeros 256)).length=256:=by rw [A9];exact zeros_length
  have hD:=λh=>cF (d:=d) (t:=t) (h:=h)
  have l0:(encI (d::t))[0]?=A4 (.i .i64 d):=rfl;have haf:E6 (E5R 256 (Cell.i .u8 0)) []=A4 (E5R 256 (Cell.i .u8 0)):=rfl;rw [I9] at haf;rw [C5a,I9];unfold okX;by_cases c:0<=d/\d<=5
  ·rw [decide_eq_true c.1,decide_eq_true c.2,E55,E55];have hd:=B2U c.1 c.2;rw [hd] at hD;have ef:E6 [Cell.i .u8 0,.i .u8 0,.i .u8 0,.i .u8 0] [(0,1,.c (.i .u8 105)),(1,1,.c (.i .u8 100)),(2,1,.c (.i .u8 120)),(3,1,.c (.i .u8 33))]=A4 (B4 magX):=rfl;have hO:=B27 (data:=magX) (v:=sV (g.length+2) 0 4 1) (nv:=4) (h:=g++[rT (encI (d::t)),rT (B4 (zeros 256)),rT (B4 magX),A7]) (Has.row (rw:=A5) (by simp) rfl (G9 _)) (by decide);rw [C7F (by decide)] at hO;have hM:A0J (g++[rT (encI (d::t)),rT (B4 (zeros 256)),rT (B4 magX),A7]) (sV (g.length+2) 0 4 1)=A4 (sV (g.length+2) 0 4 1):=by simp [A0J]
   have hW:=λh=>Z5 (h:=h) (l:=P7 256 magX) (I6 (by decide)) (a:=4) (w:=1) (v:=d)
   have ew:=jP (l:=magX) (a:=4) (w:=1) (v:=d) (by decide) (by omega) (by omega) (by omega);have e5:magX++zeros (4-magX.length)++C4 1 d=magX++C4 1 d:=rfl;have e6:P7 256 (magX++C4 1 d)=P7 256 (A0B d++uO (t.take 0)):=by
    rw [E6U,show uO []=[] from rfl,E6m];exact (D5u (by simp [magX])).symm
   rw [e5,e6] at ew;rw [show ((4:Nat):Int)=4 from rfl,show ((1:Nat):Int)=1 from rfl] at ew;rw [ew] at hW;have hp2:(B4 (P7 256 (A0B d++uO (t.take 0)))).length=256:=by rw [A9,I6 (by rw [E5T,rW,rY,E6l];omega)]
   have e7:D4 (g++[rT (encI (d::t)),rT (B4 (zeros 256)),rT (B4 magX),rT (B4 (P7 256 (A0B d++uO (t.take 0))))]) 32 (pV g.length 1)=A4 (.a (encI t)):=by
    rw [R4];simp only [List.getElem?_cons_zero,Option.join_some,ldN,E54];rw [if_pos ⟨by rw [hB];omega,rfl⟩];have:(encI (d::t)).drop 1=encI t:=rfl;rw [this,E53 (by rw [B7];omega)]
   obtain ⟨h',e⟩:=D0D (d:=d) (t:=t) (g:=g) (q:=N) ht hB 32 0 N (by omega) hN;rw [E6a] at e;generalize P7 256 (A0B d++uO (t.take 0))=P1 at *;generalize P7 256 magX=P2 at *;generalize gE d t=B at *;generalize B4 magX=mg at *;generalize zeros 256=z at *;generalize encI (d::t)=y at *;refine ⟨h',?_⟩;simp only [esc,esh,Nat.reduceAdd,hB,hz,l0,hD,ef,hM,hO,hW,hp2,e7,show g.length+2+1=g.length+3 from rfl];exact e
  ·have cd:¬ d=((W9 d:Nat):Int):=by unfold W9;omega
   have ec:(decide (0<=d)&&(decide (d<=5)&&t.all xQ))=A6:=by
    by_cases c1:0<=d
    ·rw [decide_eq_false (show ¬ d<=5 by omega)];simp
    ·rw [decide_eq_false c1];rfl
   rw [ec,cond_false,cond_false];generalize zeros 256=z at *;generalize encI (d::t)=y at *;exact ⟨_,by simp only [esc,esh,Nat.reduceAdd,hB,hz,l0,hD,cd,haf]<;>rfl⟩
 obtain ⟨g',e⟩:=key (h.length+33) (by omega) (ro h);refine C0i e ?_;cases okX d t<;>simp
def getD (b:List UInt8):Int:=fieldN b 4 1
def E3G (b:List UInt8) (i:Nat):Int:=fieldN b (32+2*i) 2
def O4 (b:List UInt8) (n:Nat):List Int:=(E6p n).map (E3G b)++zI (32-n)
def mW {b:List UInt8} {n:Nat} (hn:n<=32):(O4 b n).length=32:=by simp [O4,zI];omega
def D0y {b:List UInt8} {k:Nat} (hk:k<32):O4 b (k+1)=(O4 b k).set k (E3G b k):=by
 unfold O4;have e:zI (32-k)=0::zI (32-(k+1)):=by
  unfold zI;rw [show 32-k=(32-(k+1))+1 by omega,E6k]
 rw [e,E6u _ _ (by simp),List.range_succ,E6N,E5Y];simp
def D1F {b:List UInt8} {a w:Nat} (h:a+w<=256) (hw:1<=w) (hw4:w<=4):((atN b (a:Int) w:Nat):Int)=fieldN b a w:=by
 unfold atN fieldN;rw [if_pos ⟨by omega,O7.2 (by omega)⟩];simp only [E6c]
def A2H (t:List Int) (n e:Nat):Bool:=(E6y n e).all λi=>decide (toX t i=0)
def V6 (b:List UInt8):Bool:=okX (getD b) (O4 b 32)&&(decide (gE (getD b) (O4 b 32)=b)&&A2H (O4 b 32) (D1 (getD b)) (32-D1 (getD b)))
def D84 {b:List UInt8} {d:Int} {t:List Int} {ix iz q:Nat} {h:B5} (ht:t.length=32) (hx:rd h ix=rT (encI (d::t))) (hz:rd h iz=rT (encI (0::zI 32))):∀ e i m:Nat,i+e=32->e<m ->
  ∃ h',B8p q m (pV iz 0) (pV ix 0) (iV (i:Int)) h=A4 (.t [.a (encI (bif A2H t i e then d::t else 0::zI 32)),.c (.i .i64 (bif A2H t i e then 0 else 14))],h')
 | e,i,0,_,hm=>by omega
 | 0,i,m+1,hi,hm=>by
  have e0:i=32:=by omega
  subst e0;have c0:¬ ((32:Nat):Int)<32:=by omega
  have hX:=E4 (d:=d) ht;have hZ:(encI (0::zI 32)).length=33:=E4 (d:=0) J6;have s1:=C7 (h:=h) (id:=ix) hx hX;have s2:=storeAll (h:=h) (id:=iz) (xs:=encI (d::t)) hz hZ hX;have s3:=C7 (h:=h.set iz (rT (encI (d::t)))) (id:=iz) (C6 (C8 hz)) hX;have er:A2H t 32 0=A5:=rfl;rw [A9b,er,cond_true,cond_true];generalize encI (d::t)=y at *;exact ⟨_,by simp only [esc,c0,s1,s2,s3]<;>rfl⟩
 | e+1,i,m+1,hi,hm=>by
  obtain ⟨h',ih⟩:=D84 (b:=b) (q:=q) ht hx hz e (i+1) m (by omega) (by omega);have c0:(i:Int)<32:=by omega
  have hZ:(encI (0::zI 32)).length=33:=E4 (d:=0) J6;have a1:=adX (id:=ix) (i:=i) (by omega);have l1:=ldX (h:=h) (id:=ix) hx ht (i:=i) (by omega);have haf:E6 (encI (0::zI 32)) []=A4 (encI (0::zI 32)):=rfl;have s2:=storeAll (h:=h) (id:=iz) (xs:=encI (0::zI 32)) hz hZ hZ;have s3:=C7 (h:=h.set iz (rT (encI (0::zI 32)))) (id:=iz) (C6 (C8 hz)) hZ;have er:A2H t i (e+1)=(decide (toX t i=0)&&A2H t (i+1) e):=by unfold A2H;rw [List.range'_succ,E6B]
  rw [A9b,er,B2B];by_cases c:toX t i=0
  ·rw [decide_eq_true c,E55];rw [c] at l1;generalize encI (0::zI 32)=z at *;exact ⟨h',by simp only [esc,c0,a1,l1,D3 (show i+1<9223372036854775808 by omega)];exact ih⟩
  ·rw [decide_eq_false c,E51,cond_false,cond_false];generalize encI (0::zI 32)=z at *;exact ⟨_,by simp only [esc,c0,a1,l1,c,haf,s2,s3]<;>rfl⟩
def D83 {b:List UInt8} {g:B5} {q:Nat} (hb:b.length=256) (hq:32<q):∀ e i m:Nat,i+e=32->e<m ->
  ∃ h',B8o q m (pV g.length 0) (pV (g.length+1) 0) (pV (g.length+2) 0) (iV (i:Int)) (g++[rT (B4 b),rT (encI (0::zI 32)),rT (encI (getD b::O4 b i))]) =
   A4 (.t [.a (encI (bif V6 b then getD b::O4 b 32 else 0::zI 32)),.c (.i .i64 (bif V6 b then 0 else 14))],h')
 | e,i,0,_,hm=>by omega
 | 0,i,m+1,hi,hm=>by
  have e0:i=32:=by omega
  subst e0;have c0:¬ ((32:Nat):Int)<32:=by omega
  have hB:(B4 b).length=256:=by rw [A9,hb]
  have ht:=mW (b:=b) (n:=32) (E5V _);have hX:=E4 (d:=getD b) ht;have hZ:(encI (0::zI 32)).length=33:=E4 (d:=0) J6;have hz0:(E5R 256 (Cell.i .u8 0)).length=256:=E6n;have hP:=λh=>B8q (d:=getD b) (t:=O4 b 32) (h:=h) ht
  have hM:=λh=>eV (d:=getD b) (h:=h) ht
  have C67:=P5 (getD b);have haf:E6 (encI (0::zI 32)) []=A4 (encI (0::zI 32)):=rfl;unfold V6;rw [A9a,B2B];cases co:okX (getD b) (O4 b 32) with
  | false =>
   rw [co] at hP;simp only [cond_false] at hP;have hzz:(B4 (zeros 256)).length=256:=by rw [A9];exact zeros_length
   rw [E51,cond_false,cond_false];generalize encI (0::zI 32)=z at *;generalize encI (getD b::O4 b 32)=y at *;generalize E5R 256 (Cell.i .u8 0)=zz at *;generalize zeros 256=zzz at *;exact ⟨_,by simp only [esc,esh,Nat.reduceAdd,c0,hX,hP,hz0,hzz,haf,hZ,show decide ((1:Int)=0)=A6 from rfl]<;>rfl⟩
  | true =>
   rw [co] at hP;simp only [cond_true] at hP;rw [E55];have P6:=mY (d:=getD b) ht;have hI:(B4 (gE (getD b) (O4 b 32))).length=256:=by rw [A9,P6]
   have hE:=D2W (n:=256) P6 hb;by_cases ce:gE (getD b) (O4 b 32)=b
   ·rw [decide_eq_true ce,E55];rw [decide_eq_true ce] at hE;obtain ⟨h',e⟩:=D84 (b:=b) (d:=getD b) (t:=O4 b 32) (ix:=g.length+2) (iz:=g.length+1) (q:=q) (h:=g++[rT (B4 b),rT (encI (0::zI 32)),rT (encI (getD b::O4 b 32)),rT (B4 (gE (getD b) (O4 b 32)))]) ht (by simp) (by simp) (32-D1 (getD b)) (D1 (getD b)) q (by omega) (by omega);refine ⟨h',?_⟩;generalize A2H (O4 b 32) (D1 (getD b)) (32-D1 (getD b))=R at *;generalize gE (getD b) (O4 b 32)=I at *;generalize getD b::O4 b 32=Y at *;generalize encI (0::zI 32)=z at *;generalize E5R 256 (Cell.i .u8 0)=zz at *;simp only [esc,esh,Nat.reduceAdd,c0,hX,hP,hz0,hI,hB,hE,hM];exact e
   ·rw [decide_eq_false ce,E51,cond_false,cond_false];rw [decide_eq_false ce] at hE;generalize gE (getD b) (O4 b 32)=I at *;generalize encI (0::zI 32)=z at *;generalize encI (getD b::O4 b 32)=y at *;generalize E5R 256 (Cell.i .u8 0)=zz at *;exact ⟨_,by simp only [esc,esh,Nat.reduceAdd,c0,hX,hP,hz0,hI,hB,hE,haf,hZ]<;>rfl⟩
 | e+1,i,m+1,hi,hm=>by
  obtain ⟨h',ih⟩:=D83 (g:=g) (q:=q) hb hq e (i+1) m (by omega) (by omega);have c0:(i:Int)<32:=by omega
  have hB:(B4 b).length=256:=by rw [A9,hb]
  have ht:=mW (b:=b) (n:=i) (by omega);have hX:=E4 (d:=getD b) ht;have hA:=λh=>oP (h:=h) hb (a:=((32+2*i:Nat):Int)) (w:=2)
  have ea:=D1F (b:=b) (a:=32+2*i) (w:=2) (by omega) (by omega) (by omega);rw [show ((2:Nat):Int)=2 from rfl] at ea;rw [ea] at hA;have w1:E5U .i64 (2*(i:Int))=((2*i:Nat):Int):=by rw [wrap_i64 (by omega) (by omega)];omega
  have w2:E5U .i64 (32+((2*i:Nat):Int))=((32+2*i:Nat):Int):=by rw [wrap_i64 (by omega) (by omega)];omega
  have a1:=adX (id:=g.length+2) (i:=i) (by omega);have hs:(encI (getD b::O4 b i)).set (1+i) (.i .i64 (fieldN b (32+2*i) 2))=encI (getD b::O4 b (i+1)):=by rw [B76,D0y (by omega)];rfl
  have V7:1+i<(encI (getD b::O4 b i)).length:=by rw [hX];omega
  rw [A9a];generalize V6 b=G at *;generalize getD b::O4 b 32=Y at *;generalize encI (getD b::O4 b (i+1))=y1 at *;generalize encI (getD b::O4 b i)=y at *;generalize encI (0::zI 32)=z at *;refine ⟨h',?_⟩;simp only [esc,esh,c0,hB,w1,w2,hA,a1,V7,hs,D3 (show i+1<9223372036854775808 by omega)];exact ih
def D1Y {b:List UInt8} {h:B5} (hb:b.length=256):B0T [.a (B4 b)] h=A4 (.t [.a (encI (bif V6 b then getD b::O4 b 32 else 0::zI 32)),.c (.i .i64 (bif V6 b then 0 else 14))],h):=by
 have key:∀ N,32<N->∀ g,∃ g',B0i N [.a (B4 b)] g=A4 (.t [.a (encI (bif V6 b then getD b::O4 b 32 else 0::zI 32)),.c (.i .i64 (bif V6 b then 0 else 14))],g'):=by
  intro N hN g;have hB:(B4 b).length=256:=by rw [A9,hb]
  have hZ:(encI (0::zI 32)).length=33:=E4 (d:=0) J6;have hA:=λh=>oP (h:=h) hb (a:=4) (w:=1)
  have ea:=D1F (b:=b) (a:=4) (w:=1) (by omega) (by omega) (by omega);rw [show ((4:Nat):Int)=4 from rfl,show ((1:Nat):Int)=1 from rfl] at ea;rw [ea] at hA;have ef:E6 (encI (0::zI 32)) [(0,1,iV (fieldN b 4 1))]=A4 (encI (getD b::O4 b 0)):=by
   have e1:(0+1<=(encI (0::zI 32)).length):=by rw [hZ];omega
   simp only [E6,cells?];rw [if_pos ⟨rfl,e1⟩];rfl
  have hX:=E4 (d:=getD b) (mW (b:=b) (n:=0) (by omega));obtain ⟨h',e⟩:=D83 (g:=g) (q:=N) hb hN 32 0 N (by omega) hN;rw [C49,B2B];generalize V6 b=G at *;generalize getD b::O4 b 32=Y at *;generalize encI (getD b::O4 b 0)=y at *;generalize encI (0::zI 32)=z at *;exact ⟨h',by simp only [esc,esh,Nat.reduceAdd,hB,hZ,hA,ef,hX];exact e⟩
 obtain ⟨g',e⟩:=key (h.length+33) (by omega) (ro h);refine C0g e ?_;cases V6 b<;>simp
def zT (t:List Int) (i:Nat):Bool:=!decide (toX t i=0)&&pD t i
def M7 (t:List Int) (k:Nat):List Int:=((E6p k).filter (zT t)).map (toX t)
def A1D {t:List Int} {k:Nat}:M7 t (k+1)=M7 t k++(if zT t k=A5 then [toX t k] else []):=by
 unfold M7;rw [List.range_succ,List.filter_append,E6N,List.filter_cons];by_cases c:zT t k=A5<;>simp [c]
def gQ (t:List Int) (k:Nat):(M7 t k).length<=k:=by
 unfold M7;rw [List.length_map];exact E6w (List.length_filter_le _ _) (by simp)
def A70 {d:Int} {t:List Int} {g:B5} {n q:Nat} (ht:t.length=32) (hn:n<=32):∀ (e i m:Nat) (h:B5) (id:Nat),i+e=n->e<m->Low (g++[rT (encI (d::t))]).length (g++[rT (encI (d::t))]) h->(g++[rT (encI (d::t))]).length<=id->rd h id=rT (encI (M7 t i)) ->
  ∃ v h',xU q m (pV g.length 0) (sV id 0 (M7 t i).length 1) (iV (n:Int)) (iV (i:Int)) h=A4 (v,h')/\Out g.length h' v 1 (M7 t n).length (encI (M7 t n))
 | e,i,0,h,id,_,hm,_,_,_=>by omega
 | 0,i,m+1,h,id,hi,hm,hlow,hid,hr=>by
  have e0:i=n:=by omega
  subst e0;have c0:¬ (i:Int)<i:=by omega
  rw [E5T] at hid;rw [A0M];exact ⟨_,_,by simp only [esc,c0]<;>rfl,by rw [B7];omega,_,rfl,by omega,hr⟩
 | e+1,i,m+1,h,id,hi,hm,hlow,hid,hr=>by
  have c0:(i:Int)<n:=by omega
  have hB:=E4 (d:=d) ht;have hrd:rd h g.length=rT (encI (d::t)):=hlow.rd (by simp);have s1:=C7 (h:=h) (id:=g.length) (cs:=encI (d::t)) hrd hB;have a1:=adX (id:=g.length) (i:=i) (by omega);have l1:=ldX (h:=h) (id:=g.length) hrd ht (i:=i) (by omega);have hFs:=λh=>B1Y (d:=d) (t:=t) (i:=i) (h:=h) ht (by omega)
  have w1:=D3 (show i+1<9223372036854775808 by omega);have hul:=gQ t i;rw [A0M];have skip:zT t i=A6->∃ v h',xU q m (pV g.length 0) (sV id 0 (M7 t i).length 1) (iV (n:Int)) (iV ((i+1:Nat):Int)) h=A4 (v,h')/\Out g.length h' v 1 (M7 t n).length (encI (M7 t n)):=by
   intro c;have hu:M7 t (i+1)=M7 t i:=by rw [A1D,c];simp
   have:=A70 (q:=q) ht hn e (i+1) m h id (by omega) (by omega) hlow hid (by rw [hu];exact hr);rw [hu] at this;exact this
  by_cases cz:toX t i=0
  ·obtain ⟨v,h',f1,f2⟩:=skip (by unfold zT;rw [decide_eq_true cz];rfl);rw [cz] at l1;refine ⟨v,h',?_,f2⟩;generalize encI (d::t)=z at *;simp only [esc,c0,a1,l1,pE,w1];exact f1
  ·cases cs:pD t i with
   | false =>
    obtain ⟨v,h',f1,f2⟩:=skip (by unfold zT;rw [cs,E6T]);rw [cs] at hFs;refine ⟨v,h',?_,f2⟩;generalize encI (d::t)=z at *;simp only [esc,c0,a1,l1,cz,s1,hFs,pE,w1];exact f1
   | true =>
    rw [cs] at hFs;have cb:zT t i=A5:=by unfold zT;rw [cs,decide_eq_false cz];rfl
    have hu:M7 t (i+1)=M7 t i++[toX t i]:=by rw [A1D,if_pos cb]
    obtain ⟨h1,b1,b2,b3,b4,b5⟩:=push (ys:=[.i .i64 (toX t i)]) (sz:=1) (n:=(M7 t i).length) hlow hr (by rw [B7];omega) hid rfl (by omega) (by omega);have he:encI (M7 t i)++[.i .i64 (toX t i)]=encI (M7 t (i+1)):=by rw [hu];simp [encI]
    rw [he] at b2;obtain ⟨v,h',f1,f2⟩:=A70 (q:=q) ht hn e (i+1) m h1 (h.length+1) (by omega) (by omega) b3 b4 b2;have hl1:(M7 t (i+1)).length=(M7 t i).length+1:=by rw [hu];simp
    rw [hl1] at f1;have ef:E6 [o0] [(0,1,iV (toX t i))]=A4 [.i .i64 (toX t i)]:=rfl;refine ⟨v,h',?_,f2⟩;generalize encI (d::t)=z at *;simp only [esc,c0,a1,l1,cz,s1,hFs,ef,b1,pE,w1];exact f1
def xT {d:Int} {t:List Int} {h:B5} (ht:t.length=32):A0t [.a (encI (d::t))] h=A4 (sV h.length 0 (M7 t (D1 d)).length 1,h++[rT (encI (M7 t (D1 d)))]):=by
 have key:∀ N,32<N->∀ g,∃ v g',A0r N [.a (encI (d::t))] g=A4 (v,g')/\Out g.length g' v 1 (M7 t (D1 d)).length (encI (M7 t (D1 d))):=by
  intro N hN g;have hB:=E4 (d:=d) ht;have hM:=λh=>eV (d:=d) (h:=h) ht
  have hm:=P5 d;obtain ⟨v,g',f1,f2⟩:=A70 (g:=g) (d:=d) (q:=N) ht hm (D1 d) 0 N (g++[rT (encI (d::t)),rT [],rT []]) (g.length+2) (by omega) (by omega)
   (by have:=(Low.refl (h:=g++[rT (encI (d::t))]) (E5V _)).new [rT [],rT []];simpa using this) (by simp) (by simp [M7,encI])
  rw [show M7 t 0=[] from rfl] at f1;rw [B47];refine ⟨v,g',?_,f2⟩;generalize encI (d::t)=z at *;simp only [esc,esh,Nat.reduceAdd,hB,hM] at f1 ⊢;exact f1
 obtain ⟨v,g',e,ho⟩:=key (h.length+33) (by omega) (ro h);exact B3o e (by simpa [F7] using ho) (by simp)
def C9q (h:Nat) (b:Int):Nat:=if b<1 then 0 else if 32<=b then h else h%2 ^ b.toNat
def D5k {x:Nat} {b:Int} {h:B5} (hx:x<4294967296):C0l [.c (.i .u32 (x:Int)),iV b] h=A4 (iV (C9q x b:Nat),h):=by
 have key:∀ g,∃ g',B9H 0 [.c (.i .u32 (x:Int)),iV b] g=A4 (iV (C9q x b:Nat),g'):=by
  intro g;rw [D1p];unfold C9q;by_cases c1:b<1
  ·rw [if_pos c1];exact ⟨_,by simp only [esc,c1]<;>rfl⟩
  ·rw [if_neg c1];have w1:E5U .i64 (x:Int)=(x:Int):=wrap_i64 (by omega) (by omega);by_cases c2:32<=b
   ·rw [if_pos c2];exact ⟨_,by simp only [esc,c1,c2,w1]<;>rfl⟩
   ·rw [if_neg c2];obtain ⟨k,rfl⟩:∃ k:Nat,b=k:=⟨b.toNat,by omega⟩;rw [E6c];have w2:=C1d (k:=k) (by omega);have hp:2 ^ k<=2 ^ 31:=Nat.pow_le_pow_right (by omega) (by omega);have hp0:0<2 ^ k:=Nat.pow_pos (by omega);have e1:N4 .shl (.c (.i .u32 1)) (.c (.i .u64 (k:Int)))=A4 (.c (.i .u32 ((2 ^ k:Nat):Int))):=by
     rw [B7Q (by omega)];have h1:Nat.min (k:Int).toNat (IntKind.u32).bits=k:=by
      have:(IntKind.u32).bits=32:=rfl;rw [this,E6c];exact E6R (by omega)
     rw [h1,Int.one_mul];have e:(2:Int) ^ k=((2 ^ k:Nat):Int):=by simp
     rw [e];generalize 2 ^ k=y at hp hp0 ⊢;rw [wrap_u32 (by omega) (by omega)]
    have w3:E5U .u32 (((2 ^ k:Nat):Int)-1)=((2 ^ k-1:Nat):Int):=by rw [wrap_u32 (by omega) (by omega)];omega
    have e2:=E0z (a:=x) (b:=2 ^ k-1) hx (by omega);rw [Nat.and_two_pow_sub_one_eq_mod] at e2;have hm:x%2 ^ k<2 ^ k:=Nat.mod_lt _ hp0;have w4:E5U .i64 ((x%2 ^ k:Nat):Int)=((x%2 ^ k:Nat):Int):=wrap_i64 (by omega) (by omega);generalize 2 ^ k-1=y at *;generalize x%2 ^ k=z at *;exact ⟨_,by simp only [esc,c1,c2,w2,e1,w3,e2,w4]<;>rfl⟩
 obtain ⟨g',e⟩:=key (ro h);exact C5Q e rfl
def C7c {d:Int} {t:List Int} {x:Nat} {h:B5} (ht:t.length=32) (hx:x<4294967296):A4S [.a (encI (d::t)),.c (.i .u32 (x:Int))] h=A4 (iV (x%D1 d:Nat),h):=by
 have key:∀ g,∃ g',A4y 0 [.a (encI (d::t)),.c (.i .u32 (x:Int))] g=A4 (iV (x%D1 d:Nat),g'):=by
  intro g;have hB:=E4 (d:=d) ht;have hD:=λh=>cF (d:=d) (t:=t) (h:=h)
  have hL:=λh=>D5k (x:=x) (b:=(W9 d:Nat)) (h:=h) hx
  have e:C9q x (W9 d:Nat)=x%D1 d:=by
   unfold C9q D1;have:=uF d;rw [E6c];by_cases c:((W9 d:Nat):Int)<1
   ·have:W9 d=0:=by omega
    rw [if_pos c,this];simp [Nat.mod_one]
   ·rw [if_neg c,if_neg (by omega)]
  rw [e] at hL;rw [B9z];generalize encI (d::t)=y at *;exact ⟨_,by simp only [esc,esh,hB,hD,hL]<;>rfl⟩
 obtain ⟨g',e⟩:=key (ro h);exact B5z e rfl
def C9l (b:List UInt8):(O4 b 32).length=32:=by simp [O4,zI]
section
variable (n m m2:Nat) (a0 a1 x0 x1 x2 x3 x4 x6 x7 x8 x9 x10 x18 x19 x21 x22:Val) (h:B5)
def nU:FD A8:=⟨px 0X11201024bf2e053a04b49218011d201500001722401b1a195b027a1a17a4e787a777a7014b0220385e173901a18d15238f30412742150307024313401215f42006051105b72c035d5b41c2013011d201500622401b6193b02481a74870101b6192b02381a73870101b18191c9051e1a01e18a71e701501205b740284f42031201042,[.c (.s [46]),.c (.s [46,46]),.c (.i .u8 0),.c (.i .u8 47)],[.idxS (.t 25) (.t 26),.idxS (.t 30) (.t 31)],[.tmp 2],[]⟩
def B68:=nU.R
def B4s:AtH:=nU.lj 0 n [m] [x0,x21,x22]
def B7M:=tT [⟨2,3,B4s⟩]
def C3g:=mR B68 nU B7M n [a0] h
def A6y:=mL nU B7M 0 n [m] [x0,x21,x22] h
def A67:=nU.K Tryz.func243
def A1d:=nU.S
def C3R:SOk A8 243 A1d:=A67.sok
def B7z:F6 B68 A1d:=A67.flat
def qZ:FD A8:=⟨px 0X113026e3966a393d1c37111102723cf2b052a02218022a185e1392d0384e1710502482e07182df604123c42150307024513401215942006051105b7134f4d11c2013022a1381392d06905b71d051961192011cf3002c3961e11e39184711101722410321819022d4218f50010377031b42031e4c11942111e21b250182,[],[.idxS (.t 24) (.t 25)],[.cellN 2 25,.tmp 3],[E3 A1d A67]⟩
def B0o:=qZ.R
def B8E:AtH:=qZ.lj 0 n [m] [x0,x2,x4,x18,x19]
def C1U:=tT [⟨2,5,B8E⟩]
def C5f:=mR B0o qZ C1U n [a0] h
def A9k:=mL qZ C1U 0 n [m] [x0,x2,x4,x18,x19] h
def A9V:=qZ.K Tryz.func244
def A3F:=qZ.S
def C5R:SOk A8 244 A3F:=A9V.sok
def C0n:F6 B0o A3F:=A9V.flat
def yL:FD A8:=⟨px 0X1113df20683d0302011d12b20275001a22401b18192684e6a39683c4e39683c0110323e2e07791100722df12cf23961e61b11828062c2c2bf29001033a2a0181f1d31c201328f5013803805022a1d051b4001a2011d12b2027500001b2241c90521e1b023942031af400680411e1391818c41942112b103a3342,[.c (.s [])],[.slA 25 1 (.t 1) (A4 (.v (.c (.i .i64 1)))) (A4 (.t 14)),.b2s (.t 15),.eqA A5 (E5R 25 (.i .u8)) (.t 25) (.t 26)],[.tmp 2,.tmp 3],[E3 A3F A9V]⟩
def A4F:=yL.R
def B9I:=mR A4F yL (tT []) n [a0] h
def B3G:=yL.K Tryz.func237
def A4Y:=yL.S
def C0o:SOk A8 237 A4Y:=B3G.sok
def B5J:F6 A4F A4Y:=B3G.flat
def A3a:FD A8:=⟨px 0X17f4004121a171400062340130182,[],[],[.tmp 4],[]⟩
def C1L:=A3a.R
def C5e:=mR C1L A3a (tT []) n [a0,a1] h
def C1v:=A3a.K Tryz.func242
def B0W:=A3a.S
def C0m:F6 C1L B0W:=C1v.flat
def nV:FD A8:=⟨px 0X159f113df40301e1904218d1a1f18d7018d1e04118d4f7c18d7718d7010612029716815e3d01e0194600000031b33cf70583c02183bf6050024c131824042035e1040411d3a172c066b422bf18001a021901a204722c128128171a452150702404121a11a1b033b42030406053131af1160029719041f1d18231140230182,[],[],[.tmp 4,.tmp 5],[E3 B0W C1v]⟩
def A7q:=nV.R
def A5s:AtH:=nV.lj 0 n [m] [x0,x1,x6,x7]
def B7N:=tT [⟨2,4,A5s⟩]
def C3h:=mR A7q nV B7N n [a0,a1] h
def A6z:=mL nV B7N 0 n [m] [x0,x1,x6,x7] h
def B6R:=nV.K Tryz.func213
def A1e:=nV.S
def B7A:F6 A7q A1e:=B6R.flat
def gM:FD A8:=⟨px 0X14df203f4d0250000003724cf1a056c02218022a4611d7a16e17a151823811385e16a103850024e15a3807019032ff30041392b1013113e4c14612017243a2c0159423132bf12af6011a280182a2c29f1e0042032e1381f0181f1d1821df500441811d31c4215011a07024413401212f420060511029718032d2b291c201314a174212481042,[.c (.s [])],[.slL 1 (.t 24) (A4 (.t 26)) A7,.slL 1 (.t 28) (A4 (.t 29)) A7,.copy 1 (.t 27) (.t 30)],[.tmp 2],[E3 A1e B6R]⟩
def B0p:=gM.R
def B8F:AtH:=gM.lj 0 n [m] [x3,x8,x9,x10]
def D2d:AtH:=gM.lj 1 n [m] [x3,x8,x9,x10]
def B09:=tT [⟨2,4,B8F⟩,⟨2,4,D2d⟩]
def C5g:=mR B0p gM B09 n [a0] h
def A9m:=mL gM B09 0 n [m] [x3,x8,x9,x10] h
def A9l:=mJ gM B09 1 n [m] [x3,x8,x9,x10] h
def C1w:=gM.K Tryz.func167
def B0X:=gM.S
def C5S:SOk A8 167 B0X:=C1w.sok
def C3S:pY B0p B0X:=C1w.out
end
def cE (c:UInt8):Bool:=!(decide ((c.toNat:Int)=0)||decide ((c.toNat:Int)=47))
def W4 (s:List UInt8):Bool:=!(decide ((s.length:Int)<1)||decide (24<(s.length:Int))||decide (s=[46])||decide (s=[46,46]))&&s.all cE
def dE {s:List UInt8} (h:W4 s=A5):1<=s.length/\s.length<=24:=by
 unfold W4 at h;simp at h;omega
def C6v (s:List UInt8) (hs:s.length<9223372036854775807) (n:Nat) (h:B5):∀ d i m:Nat,i+d=s.length->d<m ->
  B4s n m (.c (.s s)) (iV s.length) (iV i) h=A4 (iV (bif (s.drop i).all cE then 0 else 3),h)
 | d,i,0,_,hm=>by omega
 | 0,i,m+1,hi,hm=>by
  have c0:¬ ((i:Int)<s.length):=by omega
  rw [A6y,show s.drop i=[] from E56 (by omega)];simp only [esc,c0,List.all_nil]
 | d+1,i,m+1,hi,hm=>by
  have h1:(i:Int)<s.length:=by omega
  have h2:i<s.length:=by omega
  have ih:=C6v s hs n h d (i+1) m (by omega) (by omega);rw [A6y,E5X h2,E6B];by_cases c1:(s[i].toNat:Int)=0
  ·have f:cE s[i]=A6:=by unfold cE;rw [decide_eq_true c1];rfl
   simp only [esc,h1,kR h2,c1,f,E51]
  ·by_cases c2:(s[i].toNat:Int)=47
   ·have f:cE s[i]=A6:=by unfold cE;rw [decide_eq_true c2];simp
    simp only [esc,h1,kR h2,c2,f,E51,Int.reduceEq]
   ·have f:cE s[i]=A5:=by unfold cE;rw [decide_eq_false c1,decide_eq_false c2];rfl
    simp only [esc,h1,kR h2,c1,c2,f,E55,D3 (show i+1<9223372036854775808 by omega)];exact ih
def C6u {s:List UInt8} (hs:s.length<9223372036854775807) (h:B5):A1d [.c (.s s)] h=A4 (iV (bif W4 s then 0 else 3),h):=by
 refine B7z (n:=s.length+1) (h2:=ro h) ?_ rfl;rw [C3g];have hl:=C6v s hs (s.length+1) (ro h) s.length 0 (s.length+1) (by omega) (by omega);rw [E6a] at hl;unfold W4;by_cases c1:(s.length:Int)<1
 ·simp only [esc,c1,Bool.true_or,E51]
 ·by_cases c2:(24:Int)<s.length
  ·simp only [esc,c1,c2,Bool.true_or,E51,Bool.or_true]
  ·by_cases c3:s=[46]
   ·subst c3;simp only [esc];rfl
   ·by_cases c4:s=[46,46]
    ·subst c4;simp only [esc];rfl
    ·simp only [esc,c1,c2,c3,c4,Bool.or_self,E55];exact hl
def jE (s:List UInt8) (i:Nat):List UInt8:=UInt8.ofNat s.length::(s.take i++zeros (24-i))
def X9 (s:List UInt8):List UInt8:=bif W4 s then jE s s.length else zeros 25
def oQ {s:List UInt8} {i:Nat} (hi:i<=s.length) (hs:s.length<=24):(jE s i).length=25:=by
 unfold jE;rw [E52,E5T,zeros_length,E6l];omega
def iT {s:List UInt8}:(X9 s).length=25:=by
 unfold X9;cases hf:W4 s with
 | false=>exact zeros_length
 | true=>exact oQ (E5V _) (dE hf).2
def D7F {s:List UInt8} {i:Nat} (hi:i<s.length) (hs:s.length<=24):(jE s i).set (1+i) s[i]=jE s (i+1):=by
 unfold jE;rw [Nat.add_comm 1 i,E6H];refine congrArg (UInt8.ofNat s.length :: ·) ?_;have hlen:(List.take i s).length=i:=by simp;omega
 rw [E6u _ _ (by omega),hlen,E6D,E58 hi,E5Y];refine congrArg (List.take i s ++ ·) ?_;have e:24-i=(24-(i+1))+1:=by omega
 rw [e];unfold zeros;rw [E6k,E6G];rfl
def D0P (s:List UInt8) (hs:s.length<=24) (h:B5) (c2:List Cell) (l2:c2.length=25) (n:Nat):∀ d i m:Nat,i+d=s.length->d<m ->
  B8E n m (.c (.s s)) (pV h.length 0) (pV (h.length+1) 0) (iV s.length) (iV i) (h++[rT c2,rT (B4 (jE s i))]) =
   A4 (.t [.a (B4 (jE s s.length)),.c o0],h++[rT (B4 (jE s s.length)),rT (B4 (jE s s.length))])
 | d,i,0,_,hm=>by omega
 | 0,i,m+1,hi,hm=>by
  have h1:¬ ((i:Int)<s.length):=by omega
  have e:i=s.length:=by omega
  subst e;have hl:(B4 (jE s s.length)).length=25:=by rw [A9];exact oQ (E5V _) hs
  rw [A9k];simp only [esc,esh,h1,hl,l2]
 | d+1,i,m+1,hi,hm=>by
  have h1:(i:Int)<s.length:=by omega
  have h3:i<s.length:=by omega
  have hl:(B4 (jE s i)).length=25:=by rw [A9];exact oQ (by omega) hs
  have ih:=D0P s hs h c2 l2 n d (i+1) m (by omega) (by omega);have e1:E5U .i64 (1+(i:Int))=((1+i:Nat):Int):=by rw [wrap_i64 (by omega) (by omega)];omega
  have ea:I3 25 1 (pV (h.length+1) 0) (iV ((1+i:Nat):Int))=A4 (pV (h.length+1) (1+i)):=by rw [J5 (by omega)];simp
  have ho:1+i<(B4 (jE s i)).length:=by omega
  rw [A9k];simp only [esc,esh,h1,e1,kR h3,ea,ho,iY,D7F h3 hs,D3 (show i+1<9223372036854775808 by omega)];exact ih
def D6w {s:List UInt8} (hs:s.length<9223372036854775807) (h:B5) :
  A3F [.c (.s s)] h=A4 (.t [.a (B4 (X9 s)),.c (.i .i64 (bif W4 s then 0 else 3))],h):=by
 have key:∀ g,∃ g',B0o (s.length+1) [.c (.s s)] g=A4 (.t [.a (B4 (X9 s)),.c (.i .i64 (bif W4 s then 0 else 3))],g'):=by
  intro g;have hz:=I9 25;have hl:(B4 (zeros 25)).length=25:=by rw [A9];exact zeros_length
  rw [C5f,hz];unfold X9;cases hf:W4 s with
  | false =>
   generalize zeros 25=Z at *;exact ⟨_,by simp only [esc,esh,C6u hs,hf,hl,Int.reduceEq]<;>rfl⟩
  | true =>
   have E5e:=(dE hf).2;have e0:(B4 (zeros 25)).set 0 (.i .u8 (E5U .u8 s.length))=B4 (jE s 0):=by
    rw [wrap_u8 (by omega) (by omega)];have:((s.length:Nat):Int)=((UInt8.ofNat s.length).toNat:Int):=by rw [UInt8.toNat_ofNat'];omega
    rw [this,iY];rfl
   have:=D0P s E5e g (B4 (zeros 25)) hl (s.length+1) s.length 0 (s.length+1) (by omega) (by omega);rw [<-e0] at this;generalize zeros 25=Z at *;have a0:I3 25 1 (pV (g.length+1) 0) (iV 0)=A4 (pV (g.length+1) 0):=rfl;have ho:0<(B4 Z).length:=by omega
   exact ⟨_,by simp only [esc,esh,C6u hs,hf,a0,ho];exact this⟩
 obtain ⟨g',e⟩:=key (ro h);exact C0n e (by simp)
def dV (l:List UInt8):Option (List UInt8) :=
 if (l.headD 0).toNat<=24 then
  if W4 ((l.drop 1).take (l.headD 0).toNat)=A5/\X9 ((l.drop 1).take (l.headD 0).toNat)=l then A4 ((l.drop 1).take (l.headD 0).toNat) else A7
 else A7
def D79 {l:List UInt8} (hl:l.length=25) (h:B5) :
  A4Y [.a (B4 l)] h=A4 (.t [.c (.s ((dV l).getD [])),.c (.i .i64 (if (dV l).isSome then 0 else 3))],h):=by
 have key:∀ g,∃ g',A4F 0 [.a (B4 l)] g=A4 (.t [.c (.s ((dV l).getD [])),.c (.i .i64 (if (dV l).isSome then 0 else 3))],g'):=by
  intro g;obtain ⟨x,r,rfl⟩:∃ x r,l=x::r:=by
   cases l with
   | nil=>simp at hl
   | cons x r=>exact ⟨x,r,rfl⟩
  have hx:=x.toNat_lt;rw [B9I];have a0:I3 25 1 (pV g.length 0) (iV 0)=A4 (pV g.length 0):=rfl;have l0:(B4 (x::r))[0]?=A4 (.i .u8 x.toNat):=rfl;have e1:E5U .i64 (x.toNat:Int)=x.toNat:=wrap_i64 (by omega) (by omega);have dF:(B4 (x::r)).length=25:=by rw [A9,hl]
  unfold dV;simp only [List.headD_cons,List.drop_succ_cons,E6a];by_cases c1:x.toNat<=24
  ·rw [if_pos c1];have c1':¬ (24:Int)<x.toNat:=by omega
   have e2:E5U .i64 (1+(x.toNat:Int))=((1+x.toNat:Nat):Int):=by rw [wrap_i64 (by omega) (by omega)];omega
   have e3:=E3r (h:=g) (l:=[rT (B4 (x::r))]) (k:=0) (n:=25) (a:=1) (b:=1+x.toNat) (cs:=B4 (x::r)) rfl dF (by omega) (by omega);rw [E6E,show 1+x.toNat-1=x.toNat by omega,show ((1:Nat):Int)=1 from rfl] at e3;have hh:Has (g++[rT (B4 (x::r))]) (sV g.length 1 x.toNat 1) 1 x.toNat (B4 (r.take x.toNat)):=Has.part U5 (by omega) (by
    rw [D0p,D0q];simp) (G9 _)
   have hs:(r.take x.toNat).length<9223372036854775807:=by simp;omega
   have hp:=D6w hs (g++[rT (B4 (x::r))]);have hpl:(B4 (X9 (r.take x.toNat))).length=25:=by rw [A9,iT]
   have hz:(E5R 25 (Cell.i .u8 0)).length=25:=E6n;have hq:=D2W (l:=X9 (r.take x.toNat)) (m:=x::r) iT hl;generalize E5R 25 (Cell.i .u8 0)=z at *;cases hf:W4 (r.take x.toNat) with
   | false =>
    rw [hf] at hp;rw [if_neg (by simp)];exact ⟨_,by simp only [esc,esh,a0,l0,e1,c1',e2,e3,hh.str,hp,hpl,hz,Int.reduceEq,E6L,E6i,Bool.false_eq_true]<;>rfl⟩
   | true =>
    rw [hf] at hp;by_cases c2:X9 (r.take x.toNat)=x::r
    ·rw [if_pos ⟨rfl,c2⟩];exact ⟨_,by simp only [esc,esh,a0,l0,e1,c1',e2,e3,hh.str,hp,hpl,hz,dF,hq,decide_eq_true c2,E6z,E6b]<;>rfl⟩
    ·rw [if_neg (λh=>c2 h.2)];exact ⟨_,by simp only [esc,esh,a0,l0,e1,c1',e2,e3,hh.str,hp,hpl,hz,dF,hq,decide_eq_false c2,E6L,E6i,Bool.false_eq_true]<;>rfl⟩
  ·rw [if_neg c1];have c1':(24:Int)<x.toNat:=by omega
   exact ⟨_,by simp only [esc,esh,a0,l0,e1,c1',E6L,E6i,Bool.false_eq_true]<;>rfl⟩
 obtain ⟨g',e⟩:=key (ro h);exact B5J e (by simp)
section
variable (n m m2:Nat) (a0 a1 a2 a3 x0 x1 x2 x3 x4 x6 x7 x11 x16 x17 x18 x34 x35 x36:Val) (h:B5)
def sK:FD A8:=⟨px 0X15f20028962500261400521201042,[],[],[.tmp 2],[]⟩
def A1T:=sK.R
def B6T:=mR A1T sK (tT []) n [a0] h
def sP:=sK.K Tryz.func216
def lJ:=sK.S
def B3j:F6 A1T lJ:=sP.flat
def A0P:FD A8:=⟨px 0X128f203018191889019391a0391e138391f013018195041f1a01f1e11e1f1f0110220103040451f00523103a2342,[],[],[.tmp 2],[cal C3R]⟩
def A7b:=A0P.R
def C2T:=mR A7b A0P (tT []) n [a0] h
def A02:=A0P.K Tryz.func215
def tC:=A0P.S
def B7g:F6 A7b tC:=A02.flat
def nJ:FD A8:=⟨px 0X139f20041393b143b133b123b113b1051a513e582f0420522ef30041390384a2c041122bf12af23961e41b11a280182a2c29f1e001030403c1f2b19190521df300111a10218213e0692b01c20412850690411a62b1974214a03a2342,[.c (.i .u64 8),.c (.i .u8 0)],[.slA 25 1 (.t 4) A7 A7],[.tmp 2],[cal C5R]⟩
def wL:=nJ.R
def B3e:=mR wL nJ (tT []) n [a0] h
def nX:=nJ.K Tryz.func217
def fL:=nJ.S
def B0z:pY wL fL:=nX.out
def jH:FD A8:=⟨px 0X11b5024f261b826e1c3020135024f260293b31b11622401b2c1901c31ac1a211ac4e28906351ac2f0101ac2f1f1ac72f4881ac3c01ac4e0141ac2f18a21ac3c0101b1819019a4d01319a2f78219a3c0110326c4b0280191d9431000334af22612901a5a0111a102293b190632301037c178488185a3d071192d3533cf13bf18011828063b2c3af38001134e39391c74633301b22ff1b053802218022a28481392d0404c14882d04022e11900201033c11e1e01a181df704121a421503070245131cd012139420060511b012f42031e4c11d42312941b422e319531c2,[],[.b2sN A7 (.t 44),.b2sN A7 (.t 49)],[.cellN 4 2,.tmp 5],[E3 lJ sP,cal C0o,E3 zP A5C,E3 tC A02,E3 fL nX,E3 B2P B9i]⟩
def A4s:=jH.R
def B1h:AtH:=jH.lj 0 n [m] [x1,x2,x4,x6,x11]
def B3O:=tT [⟨2,5,B1h⟩]
def B9o:=mR A4s jH B3O n [a0,a1] h
def A3P:=mL jH B3O 0 n [m] [x1,x2,x4,x6,x11] h
def A4k:=jH.K Tryz.func203
def yS:=jH.S
def B5d:F6 A4s yS:=A4k.flat
def pO:FD A8:=⟨px 0X11b30174221c2a0633903012c133e6318645002231422e253182,[],[],[.tmp 3],[]⟩
def A8N:=pO.R
def A1S:=mR A8N pO (tT []) n [a0,a1] h
def A8I:=pO.K Tryz.func212
def pS:=pO.Q
def A13:OfT A8N pS:=A8I.of
def R3:FD A8:=⟨px 0X39f7054c022180124301e1904b4d01184b6e02141022c4b6d3e24b3c3e4b74a4b7012c28019692220721ff11ef2262951b11a280181e2c1df1a0042032812a4881b1c191d1b18219f4041218421503070243133d012129420060517011f42422e153182,[],[],[],[E3 yS A4k,iJ pS A8I]⟩
def vG:=R3.R
def vA:O3:=R3.E
def uA:AtH:=R3.lj 0 n [m] [x1,x2,x7]
def vJ:TT:=⟨vA,[⟨2,3,uA⟩]⟩
def A4p:=mR vG R3 vJ n [a0,a1] h
def oY:=mL R3 vJ 0 n [m] [x1,x2,x7] h
def vD:=R3.K Tryz.func150
def jR:=R3.Q
def A4L:OfT vG jR:=vD.of
def yA:FD A8:=⟨px 0X17f201842505204203413ac5e648818301224c174234a03a2342,[],[],[.tmp 2],[iJ jR vD]⟩
def yP:=yA.R
def B9l:=mR yP yA (tT []) n [a0] h
def A4j:=yA.K Tryz.func165
def yR:=yA.S
def A5I:SOk A8 165 yR:=A4j.sok
def B7b:E2e yP yR:=A4j.low
def B7c:pY yP yR:=A4j.out
def dA:FD A8:=⟨px 0X11df5003f2a431c000017201b282a22a361e3183182404222840400514552d261c21000301a31742e219753282,[],[],[.tmp 5],[]⟩
def A8M:=dA.R
def C0H:AtH:=dA.lj 0 n [] [x3]
def A8R:=tT [⟨1,1,C0H⟩]
def A1R:=mR A8M dA A8R n [a0,a1,a2,a3] h
def A0K:=mJ dA A8R 0 n [] [x3] h
def A8H:=dA.K Tryz.func151
def iX:=dA.Q
def A12:OfT A8M iX:=A8H.of
def R0:FD A8:=⟨px 0X39f7054c022180124301e1904b4d01184b6e02141022c4b6d3e24b3c3e4b74a4b7012c28019692220721ff11ef2262951b11a280181e2c1df1a0042032812a4881b1c191d1b18219f4041218421503070243133d012129420060517011f42422e153182,[],[],[],[E3 yS A4k,iJ iX A8H]⟩
def vF:=R0.R
def uZ:O3:=R0.E
def tZ:AtH:=R0.lj 0 n [m] [x1,x2,x7]
def vI:TT:=⟨uZ,[⟨2,3,tZ⟩]⟩
def A4o:=mR vF R0 vI n [a0,a1] h
def oX:=mL R0 vI 0 n [m] [x1,x2,x7] h
def vC:=R0.K Tryz.func150
def jQ:=R0.Q
def A4K:OfT vF jQ:=vC.of
def xZ:FD A8:=⟨px 0X11cf5011a11c1028361a41a318201b1a116304203461c32af5e1c4881830022322a44c21f422c4c11d42312c4c43a422e419751c2,[],[],[.cellN 4 3,.tmp 5],[iJ jQ vC]⟩
def A4n:=xZ.R
def B9k:=mR A4n xZ (tT []) n [a0,a1] h
def A4i:=xZ.K Tryz.func81
def yQ:=xZ.S
def B9Q:SOk A8 81 yQ:=A4i.sok
def B5b:F6 A4n yQ:=A4i.flat
def yB:FD A8:=⟨px 0X126488601030785b134b123b112b10419413e4021c01b1042,[.c (.i .u8 98),.c (.i .u8 107),.c (.i .u8 116),.c (.i .u8 33)],[],[.cellN 0 256],[E3 A5Q A9W]⟩
def A4q:=yB.R
def B9m:=mR A4q yB (tT []) n [] h
def B3u:=yB.K Tryz.func214
def A4M:=yB.S
def B5c:F6 A4q A4M:=B3u.flat
def dG:FD A8:=⟨px 0X113022f48864f4886e1c3026df4c054a06d49218012d3022f488601c3b37111112722404327f104019e682b41cf22625ff15ef2362c191b11c2801a5e2c5df5900625304018e54f4885a1c1a2b35258f18f264ef7029181b021861a21d4167a7c1823503270245134012119b42016251102974a0319918f18d1c23c15349f2a053e022182784886061a343201336821801235e15e4883b1c501901530268488601c3b37111111105722403f01134a22f1c36b42032ef6f262cf502961b021861a21d4163a3c182150307024613401214f420060511029728034d4b491c2031ff248861c41b001f5c31961192015d30238488601c3b371062243d05202971b033b4203111c21b250182,[],[],[.cellN 2 256,.tmp 3],[E3 A4M B3u,E3 tC A02,E3 lJ sP,E3 fL nX,E3 A5P B2M,E3 yQ A4i]⟩
def A69:=dG.R
def B3U:AtH:=dG.lj 0 n [m] [x0,x2,x4,x16,x17,x18]
def B3V:AtH:=dG.lj 1 n [m] [x2,x4,x34,x35,x36]
def A7U:=tT [⟨2,6,B3U⟩,⟨2,5,B3V⟩]
def C2R:=mR A69 dG A7U n [a0] h
def A5W:=mL dG A7U 0 n [m] [x0,x2,x4,x16,x17,x18] h
def A5X:=mL dG A7U 1 n [m] [x2,x4,x34,x35,x36] h
def B6D:=dG.K Tryz.func171
def A7t:=dG.S
def C3k:SOk A8 171 A7t:=B6D.sok
def B7d:F6 A69 A7t:=B6D.flat
def yC:FD A8:=⟨px 0X117023c2601141022d3b4a10402481010371f018020119702282602d3b31c10001722401b6193d042c1a72c70110127163b4203112d61b21d530282,[],[],[.cellN 6 2,.tmp 7],[E3 lJ sP]⟩
def A4r:=yC.R
def B9n:=mR A4r yC (tT []) n [a0,a1,a2] h
def B3v:=yC.K Tryz.func218
def A4N:=yC.S
def B7f:E2e A4r A4N:=B3v.low
def A0O:FD A8:=⟨px 0X12ff5004e261428002801632301134821872a018020155023a2602d3b32e100072243018190394d010392f2c2393c01306193d01291a7297011042711b494203112d4c432e319701c2,[],[],[.cellN 4 2,.tmp 5],[E3 tC A02,E3 fL nX,E3 A4N B3v]⟩
def A7a:=A0O.R
def C2S:=mR A7a A0O (tT []) n [a0,a1] h
def B6E:=A0O.K Tryz.func172
def A7u:=A0O.S
def C3l:SOk A8 172 A7u:=B6E.sok
def B7e:D5X A7a A7u:=B6E.tidy
end
def E3i {g:B5} {l l':List (Option Row)} {v:Val} {cs:List Cell} (hl:l'=l++[rT cs]):quiet (g++l) (A4 (v,g++l'))=A4 (v,g++l'):=by
 subst hl;have:=U9 ((Grows.rfl' (h:=g++l)).new cs) (v:=v);rw [E5Y] at this;exact this
def E3h {g:B5} {a:Option Row} {v:Val} {cs:List Cell}:quiet (g++[a]) (A4 (v,g++[a,rT cs]))=A4 (v,g++[a,rT cs]):=E3i rfl
def L9 (k:Nat):Nat:=32+32*k
def pW {k:Nat} {h:B5} (hk:k<7):lJ [iV (k:Int)] h=A4 (iV (L9 k:Nat),h):=by
 have key:∀ g,∃ g',A1T 0 [iV (k:Int)] g=A4 (iV (L9 k:Nat),g'):=by
  intro g;have w1:=D3 (show k+1<9223372036854775808 by omega);have w2:E5U .i64 (32*((k+1:Nat):Int))=((L9 k:Nat):Int):=by unfold L9;rw [wrap_i64 (by omega) (by omega)];omega
  rw [B6T];exact ⟨_,by simp only [esc,w1,w2]<;>rfl⟩
 obtain ⟨g',e⟩:=key (ro h);exact B3j e rfl
def B3s:List UInt8:=[98,107,116,33]
def hdB:List UInt8:=P7 256 B3s
def A8i:hdB.length=256:=I6 (by decide)
def C6q {h:B5}:A4M [] h=A4 (.a (B4 hdB),h):=by
 have key:∀ g,∃ g',A4q 0 [] g=A4 (.a (B4 hdB),g'):=by
  intro g;have hz:(B4 (zeros 256)).length=256:=by rw [A9];exact zeros_length
  have hd:(B4 hdB).length=256:=by rw [A9];exact A8i
  have ef:E6 [Cell.i .u8 0,.i .u8 0,.i .u8 0,.i .u8 0] [(0,1,.c (.i .u8 98)),(1,1,.c (.i .u8 107)),(2,1,.c (.i .u8 116)),(3,1,.c (.i .u8 33))]=A4 (B4 B3s):=rfl;have hO:=B27 (data:=B3s) (v:=sV (g.length+1) 0 4 1) (nv:=4) (h:=g++[rT (B4 (zeros 256)),rT (B4 B3s)]) (Has.row (rw:=A5) (by simp) rfl (G9 _)) (by decide);rw [C7F (by decide),show P7 256 B3s=hdB from rfl] at hO;have hM:A0J (g++[rT (B4 (zeros 256)),rT (B4 B3s)]) (sV (g.length+1) 0 4 1)=A4 (sV (g.length+1) 0 4 1):=by simp [A0J]
  rw [B9m,I9];generalize hdB=B at *;generalize B4 B3s=mg at *;generalize zeros 256=z at *;exact ⟨_,by simp only [esc,esh,ef,hM,hO,hz,hd]<;>rfl⟩
 obtain ⟨g',e⟩:=key (ro h);exact B5c e (by simp)
def A2W (s:List UInt8) (n:Int):Bool:=W4 s&&(decide (1<=n)&&decide (n<=128))
def A47 {s:List UInt8} {n:Int} {h:B5} (hs:s.length<9223372036854775807):tC [.a [.s s,.i .i64 n]] h=A4 (bV (A2W s n),h):=by
 have key:∀ g,∃ g',A7b 0 [.a [.s s,.i .i64 n]] g=A4 (bV (A2W s n),g'):=by
  intro g;have hC:=λh=>C6u hs h
  rw [C2T];unfold A2W;cases hf:W4 s with
  | false =>
   rw [hf] at hC;exact ⟨_,by simp only [esc,esh,hC,Int.reduceEq]<;>rfl⟩
  | true =>
   rw [hf] at hC;by_cases c1:1<=n
   ·by_cases c2:n<=128
    ·rw [decide_eq_true c1,decide_eq_true c2];exact ⟨_,by simp only [esc,esh,hC,c1,c2]<;>rfl⟩
    ·rw [decide_eq_true c1,decide_eq_false c2];exact ⟨_,by simp only [esc,esh,hC,c1,c2]<;>rfl⟩
   ·rw [decide_eq_false c1];exact ⟨_,by simp only [esc,esh,hC,c1]<;>rfl⟩
 obtain ⟨g',e⟩:=key (ro h);exact B7g e rfl
def Z1 (s:List UInt8) (n:Int):List UInt8:=C4 2 n++X9 s++[0,0,0,0,0]
def Z2 {s:List UInt8} {n:Int}:(Z1 s n).length=32:=by simp [Z1,iT]
def uB {s:List UInt8} {n:Int} {h:B5} (hs:s.length<9223372036854775807):fL [.a [.s s,.i .i64 n]] h=A4 (sV h.length 0 32 1,h++[rT (B4 (Z1 s n))]):=by
 have key:∀ g,∃ v g',wL 0 [.a [.s s,.i .i64 n]] g=A4 (v,g')/\Out g.length g' v 1 32 (B4 (Z1 s n)):=by
  intro g;have e4:N4 .shr (iV n) (.c (.i .u64 8))=A4 (iV (n/256)):=C6a (by omega);have wm:∀ a:Int,E5U .u8 a=a%256:=λa=>by
   simp only [E5U,IntKind.bits,IntKind.signed,E51];rfl
  have b0:E5U .u8 n=((byI n 0).toNat:Int):=by rw [wm,A1h];simp
  have b1:E5U .u8 (n/256)=((byI n 1).toNat:Int):=by rw [wm,A1h];simp
  have ef:E6 [Cell.i .u8 0,.i .u8 0] [(0,1,.c (.i .u8 (byI n 0).toNat)),(1,1,.c (.i .u8 (byI n 1).toNat))]=A4 (B4 (C4 2 n)):=rfl;have ef5:E6 [Cell.i .u8 0,.i .u8 0,.i .u8 0,.i .u8 0,.i .u8 0] [(0,1,.c (.i .u8 0)),(1,1,.c (.i .u8 0)),(2,1,.c (.i .u8 0)),(3,1,.c (.i .u8 0)),(4,1,.c (.i .u8 0))]=A4 (B4 [0,0,0,0,0]):=rfl;have hP:=λh=>D6w hs h
  have hpl:(B4 (X9 s)).length=25:=by rw [A9];exact iT
  have hz:(B4 (zeros 25)).length=25:=by rw [A9];exact zeros_length
  have hA:=mE (h:=g++[rT [.s s,.i .i64 n],rT [],rT (B4 (C4 2 n)),rT (B4 (X9 s))]) (id:=g.length+2) (jd:=g.length+3) (n:=2) (m:=25) (sz:=1) (cs:=B4 (C4 2 n)) (ys:=B4 (X9 s)) (rw:=A5) (by simp) (by simp [A9]) (by simp) (by rw [hpl]) rfl (by omega) (by omega);simp only [E5T,E52,E6h,E6e,E5Y,E6q,E59,nF,E6H,E6G,Nat.reduceAdd,<-N1] at hA;have E2I:(B4 (C4 2 n++X9 s)).length=27*1:=by rw [A9,E5T,Q8,iT]
  have hA2:=mE (h:=g++[rT [.s s,.i .i64 n],rT [],A7,rT (B4 (X9 s)),rT (B4 (C4 2 n++X9 s)),rT (B4 [0,0,0,0,0])]) (id:=g.length+4) (jd:=g.length+5) (n:=27) (m:=5) (sz:=1) (cs:=B4 (C4 2 n++X9 s)) (ys:=B4 [0,0,0,0,0]) (rw:=A5) (by simp) E2I (by simp) rfl rfl (by omega) (by omega);simp only [E5T,E52,E6h,E6e,E5Y,E6q,E59,nF,E6H,E6G,Nat.reduceAdd,<-N1] at hA2;rw [<-E5Y (C4 2 n),show C4 2 n++X9 s++[0,0,0,0,0]=Z1 s n from rfl] at hA2;rw [B3e,I9];refine ⟨sV (g.length+6) 0 32 1,g++[rT [.s s,.i .i64 n],rT [],A7,rT (B4 (X9 s)),A7,rT (B4 [0,0,0,0,0]),rT (B4 (Z1 s n))],?_,by rw [A9,Z2],g.length+6,rfl,by omega,?_⟩
  ·generalize Z1 s n=E at *;generalize C4 2 n++X9 s=Q at *;generalize B4 [0,0,0,0,0]=F at *;generalize B4 (X9 s)=P at *;generalize B4 (C4 2 n)=B2 at *;generalize zeros 25=z at *;simp only [esc,esh,Nat.reduceAdd,b0,e4,b1,ef,hP,hpl,hz,hA,ef5,hA2]
  ·simp
 obtain ⟨v,g',e,ho⟩:=key (ro h);exact B0z e (by simpa [F7] using ho) (by simp)
def A2K (b:List UInt8) (k:Nat):List UInt8:=(b.drop (L9 k)).take 32
def nameB (b:List UInt8) (k:Nat):List UInt8:=(b.drop (L9 k+2)).take 25
def dM (b:List UInt8) (k:Nat):Int:=fieldN b (L9 k) 2
abbrev Ent:=List UInt8 × Int
def isE (b:List UInt8) (k:Nat) (s:List UInt8):Bool:=A2W s (dM b k)&&decide (Z1 s (dM b k)=A2K b k)
def S7 (b:List UInt8) (k:Nat):Option Ent:=(dV (nameB b k)).bind λs=>if isE b k s=A5 then A4 (s,dM b k) else A7
def X1:Option Ent->List Cell
 | none=>[.s [],o0]
 | some e=>[.s e.1,.i .i64 e.2]
def B87 {b:List UInt8} {k:Nat} (hb:b.length=256) (hk:k<7):(A2K b k).length=32:=by simp [A2K,L9,hb];omega
def A8r {b:List UInt8} {k:Nat} (hb:b.length=256) (hk:k<7):(nameB b k).length=25:=by simp [nameB,L9,hb];omega
def A8E {l s:List UInt8} (h:dV l=A4 s):W4 s=A5:=by
 unfold dV at h;split at h
 ·split at h
  ·rename_i hc;cases h;exact hc.1
  ·cases h
 ·cases h
def cpN (l:List UInt8) (i:Nat):List UInt8:=l.take i++zeros (25-i)
def D41 {l:List UInt8} {i:Nat} (hl:l.length=25) (hi:i<=25):(cpN l i).length=25:=by simp [cpN,zeros,hl];omega
def E0O {l:List UInt8} {i:Nat} (hl:l.length=25) (hi:i<25):(cpN l i).set i l[i]=cpN l (i+1):=by
 unfold cpN;have hlen:(List.take i l).length=i:=by simp;omega
 rw [E6u _ _ (by omega),hlen,E6D,E58 (by omega),E5Y];refine congrArg (List.take i l ++ ·) ?_;have e:25-i=(25-(i+1))+1:=by omega
 rw [e];unfold zeros;rw [E6k,E6G];rfl
def E0N {l:List UInt8} (hl:l.length=25):cpN l 25=l:=by simp [cpN,zeros,E53,hl]
def D3u {b:List UInt8} {k:Nat}:cV b (L9 k:Nat) 32=A2K b k:=by
 unfold cV A2K;rw [if_pos (by omega)];simp
def D56 {b:List UInt8} {k:Nat} (hk:k<7):((atN b (L9 k:Nat) 2:Nat):Int)=dM b k:=by
 unfold atN dM fieldN L9;rw [if_pos ⟨by omega,O7.2 (by omega)⟩];simp only [E6c];rfl
def C6o {b:List UInt8} {k q:Nat} {g:B5} (hb:b.length=256) (hk:k<7):∀ e i m:Nat,i+e=25->e<m ->
  ∃ h',B1h q m (iV (k:Int)) (pV g.length 0) (pV (g.length+1) 0) (pV (g.length+2) 0) (iV (i:Int)) (g++[rT (B4 b),rT [.s [],o0],rT (B4 (cpN (nameB b k) i))]) =
   A4 (.t [.a (X1 (S7 b k)),.c (.b (S7 b k).isSome)],h')
 | e,i,0,_,hm=>by omega
 | 0,i,m+1,hi,hm=>by
  have e0:i=25:=by omega
  subst e0;have hnl:=A8r hb hk;rw [E0N hnl];have c0:¬ ((25:Nat):Int)<25:=by omega
  have hbl:(B4 b).length=256:=by rw [A9,hb]
  have hnc:(B4 (nameB b k)).length=25:=by rw [A9,hnl]
  have hU:=λh=>D79 hnl h
  have hF:=λh=>pW (h:=h) hk
  have hA:=λh=>oP (h:=h) hb (a:=(L9 k:Nat)) (w:=2)
  rw [D56 hk] at hA;have ef:∀ (s:List UInt8) (n:Int),E6 [Cell.s [],o0] [(0,1,.c (.s s)),(1,1,iV n)]=A4 [.s s,.i .i64 n]:=λ_ _=>rfl
  have ef0:E6 [Cell.s [],o0] []=A4 [.s [],o0]:=rfl;rw [A3P];unfold S7;cases hu:dV (nameB b k) with
  | none =>
   rw [hu] at hU;simp only [E6L,E6i,Bool.false_eq_true,if_false] at hU;generalize dM b k=n at *;generalize B4 (nameB b k)=z at *;generalize B4 b=y at *;exact ⟨_,by simp only [esc,esh,Nat.reduceAdd,c0,hbl,hnc,hU,hF,hA,ef,ef0,Int.reduceEq,Option.bind_none,X1]<;>rfl⟩
  | some s =>
   rw [hu] at hU;simp only [E6z,E6b,if_true] at hU;have hfs:=(dE (A8E hu)).2;have hM:=λh=>A47 (s:=s) (n:=dM b k) (h:=h) (by omega)
   rw [E54];unfold isE;cases hm:A2W s (dM b k) with
   | false =>
    rw [hm] at hM;rw [E51,if_neg (by simp)];generalize dM b k=n at *;generalize B4 (nameB b k)=z at *;generalize B4 b=y at *;exact ⟨_,by simp only [esc,esh,Nat.reduceAdd,c0,hbl,hnc,hU,hF,hA,ef,ef0,hM,X1]<;>rfl⟩
   | true =>
    rw [hm] at hM;rw [E55];have hW:=λh=>uB (s:=s) (n:=dM b k) (h:=h) (by omega)
    have oL:=B87 hb hk;have hC:=λh=>B6m (h:=h) hb (a:=(L9 k:Nat)) (n:=32)
    rw [D3u,oL] at hC;have s1:=λ(c0 c1 c2 c3:Option Row)=>Has.str (l:=Z1 s (dM b k)) (Has.row (h:=g++[c0,c1,c2,c3,rT (B4 (Z1 s (dM b k)))]) (id:=g.length+4) (sz:=1) (n:=32) (rw:=A5) (by simp) (by rw [A9,Z2]) (G9 _))
    have s2:=λ(c0 c1 c2 c3 c4:Option Row)=>Has.str (l:=A2K b k) (Has.row (h:=g++[c0,c1,c2,c3,c4,rT (B4 (A2K b k))]) (id:=g.length+5) (sz:=1) (n:=32) (rw:=A5) (by simp) (by rw [A9,oL]) (G9 _))
    by_cases ce:Z1 s (dM b k)=A2K b k
    ·rw [if_pos (decide_eq_true ce)];generalize Z1 s (dM b k)=E at *;generalize A2K b k=L at *;generalize dM b k=n at *;subst ce;generalize B4 (nameB b k)=z at *;generalize B4 b=y at *;exact ⟨_,by simp only [esc,esh,Nat.reduceAdd,c0,hbl,hnc,hU,hF,hA,ef,ef0,hM,hW,s1,hC,s2,eq_self,decide_true,X1,E6b]<;>rfl⟩
    ·rw [if_neg (by rw [decide_eq_true_eq];exact ce)];generalize Z1 s (dM b k)=E at *;generalize A2K b k=L at *;generalize dM b k=n at *;generalize B4 (nameB b k)=z at *;generalize B4 b=y at *;exact ⟨_,by simp only [esc,esh,Nat.reduceAdd,c0,hbl,hnc,hU,hF,hA,ef,ef0,hM,hW,s1,hC,s2,ce,X1,E6i]<;>rfl⟩
 | e+1,i,m+1,hi,hm=>by
  obtain ⟨h',ih⟩:=C6o (q:=q) (g:=g) hb hk e (i+1) m (by omega) (by omega);have hnl:=A8r hb hk;have c0:(i:Int)<25:=by omega
  have hF:=λh=>pW (h:=h) hk
  have hbl:(B4 b).length=256:=by rw [A9,hb]
  have hcl:(B4 (cpN (nameB b k) i)).length=25:=by rw [A9];exact D41 hnl (by omega)
  have V7:i<(B4 (cpN (nameB b k) i)).length:=by omega
  have w1:E5U .i64 (((L9 k:Nat):Int)+2)=((L9 k+2:Nat):Int):=by unfold L9;rw [wrap_i64 (by omega) (by omega)];omega
  have w2:E5U .i64 (((L9 k+2:Nat):Int)+(i:Int))=((L9 k+2+i:Nat):Int):=by unfold L9;rw [wrap_i64 (by omega) (by omega)];omega
  have hj:L9 k+2+i<256:=by unfold L9;omega
  have a1:I3 256 1 (pV g.length 0) (iV ((L9 k+2+i:Nat):Int))=A4 (pV g.length (L9 k+2+i)):=by rw [J5 hj];simp
  have a2:I3 25 1 (pV (g.length+2) 0) (iV (i:Int))=A4 (pV (g.length+2) i):=by rw [J5 (by omega)];simp
  have ei:(nameB b k)[i]'(by omega)=b[L9 k+2+i]'(by omega):=by simp [nameB]
  have l1:(B4 b)[L9 k+2+i]?=A4 (.i .u8 ((nameB b k)[i]'(by omega)).toNat):=by
   rw [ei];simp [B4,hb,hj]
  have hs:(B4 (cpN (nameB b k) i)).set i (.i .u8 ((nameB b k)[i]'(by omega)).toNat)=B4 (cpN (nameB b k) (i+1)):=by rw [iY,E0O hnl (by omega)]
  rw [A3P];refine ⟨h',?_⟩;generalize B4 (cpN (nameB b k) (i+1))=z1 at *;generalize B4 (cpN (nameB b k) i)=z at *;generalize B4 b=y at *;simp only [esc,esh,c0,hF,w1,w2,a1,l1,a2,V7,hs,D3 (show i+1<9223372036854775808 by omega)];exact ih
def D0r {o:Option Ent}:O5 (X1 o)=A5:=by cases o<;>rfl
def B1g {b:List UInt8} {k:Nat} {h:B5} (hb:b.length=256) (hk:k<7):yS [.a (B4 b),iV (k:Int)] h=A4 (.t [.a (X1 (S7 b k)),.c (.b (S7 b k).isSome)],h):=by
 have key:∀ N,25<N->∀ g,∃ g',A4s N [.a (B4 b),iV (k:Int)] g=A4 (.t [.a (X1 (S7 b k)),.c (.b (S7 b k).isSome)],g'):=by
  intro N hN g;obtain ⟨h',e⟩:=C6o (g:=g) (q:=N) hb hk 25 0 N (by omega) hN;have e0:cpN (nameB b k) 0=zeros 25:=by simp [cpN]
  rw [e0] at e;rw [B9o,I9];generalize zeros 25=z at *;generalize B4 b=y at *;exact ⟨h',by simp only [esc,esh,Nat.reduceAdd];exact e⟩
 obtain ⟨g',e⟩:=key (h.length+26) (by omega) (ro h);exact B5d e (by simp [Val.flat,D0r,Cell.flat])
abbrev Slt:=Nat × Ent
def slC:Option Slt->List Cell
 | none=>[o0,.s [],o0]
 | some x=>[.i .i64 (x.1:Int),.s x.2.1,.i .i64 x.2.2]
def nG {o:Option Slt}:(slC o).length=3:=by cases o<;>rfl
def D4w {o:Option Slt}:O5 (slC o)=A5:=by cases o<;>rfl
def bA (b nm:List UInt8):Nat->Nat->Option Slt
 | 0,_=>A7
 | e+1,k=>match S7 b k with
  | some x=>if x.1=nm then A4 (k,x) else bA b nm e (k+1)
  | none=>bA b nm e (k+1)
def A5k {b nm:List UInt8} {e k:Nat} (hx:S7 b k=A7):bA b nm (e+1) k=bA b nm e (k+1):=by rw [bA,hx]
def A8d {b nm:List UInt8} {e k:Nat} {n:Int} (hx:S7 b k=A4 (nm,n)):bA b nm (e+1) k=A4 (k,(nm,n)):=by rw [bA,hx];simp
def A5j {b nm s:List UInt8} {e k:Nat} {n:Int} (hx:S7 b k=A4 (s,n)) (T1:s≠nm):bA b nm (e+1) k=bA b nm e (k+1):=by rw [bA,hx];simp [T1]
def X8 (b nm:List UInt8):Option Slt:=bA b nm 7 0
def D80 {k n:Int} {s nm:List UInt8} {r1 r2 r3:Nat} {h:B5} (h1:rd h r1=rT [.s nm]) (h3:rd h r3=rT [.b A6]) (T1:s≠nm) :
  iX [.a [.i .i64 k,.s s,.i .i64 n],pV r1 0,pV r2 0,pV r3 0] h=A4 (bV A5,h++[rT [.i .i64 k,.s s,.i .i64 n]]):=by
 refine A12 (n:=0) ?_;have l1:B8 (h++[rT [.i .i64 k,.s s,.i .i64 n]]) (pV r1 0)=A4 (.c (.s nm)):=B9 (cs:=[.s nm]) (C5 h1) rfl rfl;have l3:B8 (h++[rT [.i .i64 k,.s s,.i .i64 n]]) (pV r3 0)=A4 (bV A6):=B9 (cs:=[.b A6]) (C5 h3) rfl rfl;rw [A1R];simp only [esc,esh,Nat.reduceAdd,l1,T1,A0K,l3]<;>rfl
def D7e {k n:Int} {nm:List UInt8} {c2:List Cell} {r1 r2 r3:Nat} {h:B5} (h1:rd h r1=rT [.s nm]) (h2:rd h r2=rT c2) (hl:c2.length=3) (h3:rd h r3=rT [.b A6]) (h23:r2≠r3) :
  iX [.a [.i .i64 k,.s nm,.i .i64 n],pV r1 0,pV r2 0,pV r3 0] h=A4 (bV A6,((h++[rT [.i .i64 k,.s nm,.i .i64 n]]).set r2 (rT [.i .i64 k,.s nm,.i .i64 n])).set r3 (rT [.b A5])):=by
 refine A12 (n:=0) ?_;have l1:B8 (h++[rT [.i .i64 k,.s nm,.i .i64 n]]) (pV r1 0)=A4 (.c (.s nm)):=B9 (cs:=[.s nm]) (C5 h1) rfl rfl;have s2:=storeAll (h:=h++[rT [.i .i64 k,.s nm,.i .i64 n]]) (id:=r2) (n:=3) (xs:=[.i .i64 k,.s nm,.i .i64 n]) (C5 h2) hl rfl;have h3':rd ((h++[rT [.i .i64 k,.s nm,.i .i64 n]]).set r2 (rT [.i .i64 k,.s nm,.i .i64 n])) r3=rT [.b A6]:=by rw [B6 h23];exact C5 h3
 have s3:=G8 (x:=.b A5) (off:=0) h3' (by simp);have l4:B8 (((h++[rT [.i .i64 k,.s nm,.i .i64 n]]).set r2 (rT [.i .i64 k,.s nm,.i .i64 n])).set r3 (rT [.b A5])) (pV r3 0)=A4 (bV A5):=B9 (cs:=[.b A5]) (C6 (by simpa using C8 h3')) rfl rfl;rw [A1R];have s3:I5 ((h++[rT [.i .i64 k,.s nm,.i .i64 n]]).set r2 (rT [.i .i64 k,.s nm,.i .i64 n])) (pV r3 0) (bV A5)=A4 (((h++[rT [.i .i64 k,.s nm,.i .i64 n]]).set r2 (rT [.i .i64 k,.s nm,.i .i64 n])).set r3 (rT [.b A5])):=s3;simp only [esc,esh,Nat.reduceAdd,l1,s2,s3,A0K,l4]<;>rfl
def C0N {b nm:List UInt8} {r0 r1 r2 r3 q:Nat} {B:B5} (hb:b.length=256) (hB1:rd B r1=rT [.s nm]) (hr2:B.length<=r2) (hr3:B.length<=r3) (h23:r2≠r3) (h02:r0≠r2) (h03:r0≠r3):∀ (e k m:Nat) (h:B5),k+e=7->e<m->Low B.length B h ->
  rd h r2=rT (slC A7)->rd h r3=rT [.b A6]->rd h r0=rT (B4 b) ->
  ∃ h',tZ q m (.c (.f 151 [(r1,0),(r2,0),(r3,0)])) (pV r0 0) (iV (k:Int)) h=A4 (.t [],h')/\Low B.length B h'/\rd h' r2=rT (slC (bA b nm e k))/\rd h' r3=rT [.b (bA b nm e k).isSome]
 | e,k,0,h,_,hm,_,_,_,_=>by omega
 | 0,k,m+1,h,hk,hm,hlow,h2,h3,h0=>by
  have e0:k=7:=by omega
  subst e0;have c0:¬ ((7:Nat):Int)<7:=by omega
  refine ⟨h,?_,hlow,h2,h3⟩;rw [oX];simp only [esc,c0]<;>rfl
 | e+1,k,m+1,h,hk,hm,hlow,h2,h3,h0=>by
  have c0:(k:Int)<7:=by omega
  have hbl:(B4 b).length=256:=by rw [A9,hb]
  have s1:=C7 (h:=h) (id:=r0) h0 hbl;have hR:=B1g (h:=h) (k:=k) hb (by omega);have w1:=D3 (show k+1<9223372036854775808 by omega);have hcv:∀ (x:Val) (h:B5),A3R uZ (.c (.f 151 [(r1,0),(r2,0),(r3,0)])) [x] h=iX [x,pV r1 0,pV r2 0,pV r3 0] h:=λ_ _=>Eq.trans rfl rfl
  rw [oX];cases hx:S7 b k with
  | none =>
   rw [hx] at hR;rw [A5k hx];obtain ⟨h',f1,f2⟩:=C0N (q:=q) hb hB1 hr2 hr3 h23 h02 h03 e (k+1) m (h++[rT ([.s [],o0])]) (by omega) (by omega) (hlow.new _) (C5 h2) (C5 h3) (C5 h0);refine ⟨h',?_,f2⟩;generalize B4 b=y at *;simp only [esc,esh,Nat.reduceAdd,c0,s1,hR,X1,E6i,w1];exact f1
  | some x =>
   obtain ⟨s,n⟩:=x;rw [hx] at hR;have ef:E6 [o0,.s [],o0] [(0,1,iV (k:Int)),(1,2,.a [.s s,.i .i64 n])]=A4 [.i .i64 (k:Int),.s s,.i .i64 n]:=rfl;have h1':rd (h++[rT [.s s,.i .i64 n]]) r1=rT [.s nm]:=C5 (hlow.rd hB1);by_cases ce:s=nm
   ·subst ce;have hF:=D7e (k:=(k:Int)) (n:=n) h1' (C5 h2) nG (C5 h3) h23;simp only [E5Y,E6q,E59] at hF;rw [A8d hx];refine ⟨((h++[rT [.s s,.i .i64 n],rT [.i .i64 (k:Int),.s s,.i .i64 n]]).set r2 (rT [.i .i64 (k:Int),.s s,.i .i64 n])).set r3 (rT [.b A5]),?_,((hlow.new [rT [.s s,.i .i64 n],rT [.i .i64 (k:Int),.s s,.i .i64 n]]).set hr2 _).set hr3 _,?_,?_⟩
    ·generalize B4 b=y at *;simp only [esc,esh,Nat.reduceAdd,c0,s1,hR,X1,E6b,ef,hcv,hF]<;>rfl
    ·rw [B6 (Ne.symm h23)];exact C6 (C8 (C5 h2))
    ·exact C6 (by rw [E6o];exact C8 (C5 h3))
   ·have hF:=D80 (k:=(k:Int)) (n:=n) (r2:=r2) h1' (C5 h3) ce;simp only [E5Y,E6q,E59] at hF;rw [A5j hx ce];obtain ⟨h',f1,f2⟩:=C0N (q:=q) hb hB1 hr2 hr3 h23 h02 h03 e (k+1) m (h++[rT [.s s,.i .i64 n],rT [.i .i64 (k:Int),.s s,.i .i64 n]]) (by omega) (by omega) (hlow.new _) (C5 h2) (C5 h3) (C5 h0);refine ⟨h',?_,f2⟩;generalize B4 b=y at *;simp only [esc,esh,Nat.reduceAdd,c0,s1,hR,X1,E6b,ef,hcv,hF,w1];exact f1
def B1f {b nm:List UInt8} {h:B5} (hb:b.length=256):yQ [.a (B4 b),.c (.s nm)] h=A4 (.t [.a (slC (X8 b nm)),.c (.b (X8 b nm).isSome)],h):=by
 have key:∀ g,∃ g',A4n 0 [.a (B4 b),.c (.s nm)] g=A4 (.t [.a (slC (X8 b nm)),.c (.b (X8 b nm).isSome)],g'):=by
  intro g;have hbl:(B4 b).length=256:=by rw [A9,hb]
  have emk:B5U 151 [pV (g.length+1) 0,pV (g.length+3) 0,pV (g.length+4) 0]=A4 (.c (.f 151 [(g.length+1,0),(g.length+3,0),(g.length+4,0)])):=rfl;obtain ⟨h',f1,f2,f3,f4⟩:=C0N (b:=b) (nm:=nm) (r0:=g.length+5) (r1:=g.length+1) (r2:=g.length+3) (r3:=g.length+4) (q:=8) (B:=g++[rT (B4 b),rT [.s nm],rT (slC A7)]) hb (by simp) (by simp) (by simp) (by omega) (by omega) (by omega) 7 0 8 (g++[rT (B4 b),rT [.s nm],rT (slC A7),rT (slC A7),rT [.b A6],rT (B4 b)]) (by omega) (by omega)
   (by have:=(Low.refl (h:=g++[rT (B4 b),rT [.s nm],rT (slC A7)]) (E5V _)).new [rT (slC A7),rT [.b A6],rT (B4 b)];simpa using this) (by simp) (by simp) (by simp)
  have hS:jQ [.a (B4 b),.c (.f 151 [(g.length+1,0),(g.length+3,0),(g.length+4,0)])] (g++[rT (B4 b),rT [.s nm],rT (slC A7),rT (slC A7),rT [.b A6]])=A4 (.t [],h'):=by
   refine A4K (n:=8) ?_;rw [A4o];simp only [esc,esh,Nat.reduceAdd];exact f1
  have hr:rd h' (g.length+2)=rT (slC A7):=by rw [f2.2.2 _ (by simp)];simp
  change rd h' (g.length+3)=rT (slC (X8 b nm)) at f3;change rd h' (g.length+4)=rT [.b (X8 b nm).isSome] at f4;have t1:=C7 (n:=3) f3 nG;have t2:B8 h' (pV (g.length+4) 0)=A4 (bV (X8 b nm).isSome):=B9 (cs:=[.b (X8 b nm).isSome]) f4 rfl rfl;have t3:=storeAll (n:=3) (xs:=slC (X8 b nm)) hr nG nG;have f4':rd (h'.set (g.length+2) (rT (slC (X8 b nm)))) (g.length+4)=rT [.b (X8 b nm).isSome]:=by rw [B6 (by omega)];exact f4
  have t4:B8 (h'.set (g.length+2) (rT (slC (X8 b nm)))) (pV (g.length+4) 0)=A4 (bV (X8 b nm).isSome):=B9 (cs:=[.b (X8 b nm).isSome]) f4' rfl rfl;have t5:=C7 (n:=3) (C6 (x:=rT (slC (X8 b nm))) (C8 hr)) nG;have z0:[o0,.s [],o0]=slC A7:=rfl;rw [B9k,z0];generalize slC (X8 b nm)=Y at *;generalize slC A7=Z at *;generalize (X8 b nm).isSome=S at *;generalize B4 b=y at *;exact ⟨_,by simp only [esc,esh,Nat.reduceAdd,Nat.reduceLT,hbl,emk,hS,t1,t2,t3,t4,t5]<;>rfl⟩
 obtain ⟨g',e⟩:=key (ro h);exact B5b e (by simp [Val.flat,D4w,Cell.flat])
def A2z (X:List Int) (nm:List UInt8):Nat:=A0D nm%D1 (X.headD 0)
def R8 (X:List Int) (nm:List UInt8):Int:=X.tail.getD (A2z X nm) 0
def D3M (X:List Int) (nm:List UInt8):A2z X nm<32:=by
 have h1:=P5 (X.headD 0);have h2:0<D1 (X.headD 0):=by unfold D1;exact Nat.two_pow_pos _
 have:=Nat.mod_lt (A0D nm) h2;unfold A2z;omega
abbrev Plc:=Int × Nat × Int
def uR (l:List Slt):List Cell:=(l.map λx=>slC (A4 x)).flatten
def A0l {l:List Slt}:(uR l).length=l.length*3:=by
 induction l with
 | nil=>rfl
 | cons x l ih=>simp only [uR,E6X,List.flatten_cons,E5T,nG,E52] at ih ⊢;omega
def D70 {l:List Slt} {x:Slt}:uR (l++[x])=uR l++slC (A4 x):=by simp [uR]
def D7Z {l:List Slt}:O5 (uR l)=A5:=by
 induction l with
 | nil=>rfl
 | cons x l ih =>
  have:uR (x::l)=slC (A4 x)++uR l:=rfl;rw [this,uI,D4w,ih];rfl
def D9C {l:List Slt}:noX (uR l)=A5:=by
 induction l with
 | nil=>rfl
 | cons x l ih =>
  have:uR (x::l)=[.i .i64 (x.1:Int),.s x.2.1,.i .i64 x.2.2]++uR l:=rfl;rw [this];simp [noX,Cell.isX] at ih ⊢;exact ih
def N9 (b:List UInt8):Nat->Nat->List Slt
 | 0,_=>[]
 | e+1,k=>match S7 b k with
  | some x=>(k,x)::N9 b e (k+1)
  | none=>N9 b e (k+1)
def O6 (b:List UInt8):List Slt:=N9 b 7 0
def zB {b:List UInt8} {e k:Nat} (hx:S7 b k=A7):N9 b (e+1) k=N9 b e (k+1):=by rw [N9,hx]
def zC {b:List UInt8} {e k:Nat} {x:Ent} (hx:S7 b k=A4 x):N9 b (e+1) k=(k,x)::N9 b e (k+1):=by rw [N9,hx]
def E2k {h:B5} {jd m sz:Nat} {ys:List Cell} (hy:rd h jd=rT ys) (hyl:ys.length=m*sz) (hsz:0<sz) (hn:m<=1073741824) :
  kV h sz (.c .ns) (sV jd 0 m sz)=A4 (sV h.length 0 m sz,h++[rT ys]):=by
 have h2:Q6 h sz (sV jd 0 m sz)=A4 ys:=by
  simp only [Q6,if_true,iW,hy,E54,E6a,E6e];rw [<-hyl,List.take_length,if_pos ⟨E5V _,rfl⟩]
 have e1:ys.length/sz=m:=by rw [hyl];exact Nat.mul_div_cancel _ hsz
 simp only [kV,h2,E54];rw [e1,if_pos hn]
def Held (h:B5) (x:Cell) (l:List Slt) (b r0 r:Nat):Prop:=(l=[]/\x=.ns)\/∃ id,x=.sl id 0 l.length 3/\rd h id=rT (uR l)/\b<=id/\id≠r0/\id≠r
def Held.more {h:B5} {x:Cell} {l:List Slt} {b r0 r:Nat} (hd:Held h x l b r0 r) (t:B5):Held (h++t) x l b r0 r:=by
 rcases hd with hd | ⟨id,h1,h2,h3⟩
 ·exact .inl hd
 ·exact .inr ⟨id,h1,C5 h2,h3⟩
def D9r {k:Nat} {n:Int} {s:List UInt8} {x:Cell} {l:List Slt} {r0 r:Nat} {B h:B5} {c0:List Cell} (hlow:Low B.length B h) (hr:rd h r=rT [x]) (h0:rd h r0=rT c0) (h0r:r0≠r) (hBr:B.length<=r) (hB0:B.length<=r0) (hd:Held h x l B.length r0 r) (hl:l.length<=7) :
  ∃ x' h',pS [.a [.i .i64 (k:Int),.s s,.i .i64 n],pV r 0] h=A4 (bV A5,h')/\Low B.length B h'/\rd h' r=rT [x']/\rd h' r0=rT c0/\Held h' x' (l++[(k,(s,n))]) B.length r0 r:=by
 have V7:=C8 hr;have E5N:=C8 h0;have l1:B8 (h++[rT [.i .i64 (k:Int),.s s,.i .i64 n]]) (pV r 0)=A4 (.c x):=B9 (cs:=[x]) (C5 hr) rfl (by simp);have ef:E6 [o0,.s [],o0] [(0,3,.a [.i .i64 (k:Int),.s s,.i .i64 n])]=A4 [.i .i64 (k:Int),.s s,.i .i64 n]:=rfl;have hBh:=hlow.2.1;rcases hd with ⟨rfl,rfl⟩ | ⟨id,rfl,hi,hbi,hi0,hir⟩
 ·have hA:=E2k (h:=h++[rT [.i .i64 (k:Int),.s s,.i .i64 n],rT [.i .i64 (k:Int),.s s,.i .i64 n]]) (jd:=h.length+1) (m:=1) (sz:=3) (ys:=[.i .i64 (k:Int),.s s,.i .i64 n]) (by simp) rfl (by omega) (by omega);simp only [E5T,E52,E6h,E6e,E5Y,E6q,E59,Nat.reduceAdd] at hA;have hr2:rd (h++[rT [.i .i64 (k:Int),.s s,.i .i64 n],rT [.i .i64 (k:Int),.s s,.i .i64 n],rT [.i .i64 (k:Int),.s s,.i .i64 n]]) r=rT [.ns]:=C5 hr;have t1:=G8 (x:=.sl (h.length+2) 0 1 3) (off:=0) hr2 (by simp);refine ⟨.sl (h.length+2) 0 1 3,_,A13 (n:=0) (by rw [A1S];simp only [esc,esh,Nat.reduceAdd,l1,ef,hA,t1]<;>rfl),(hlow.new _).set hBr _,?_,?_,.inr ⟨h.length+2,rfl,?_,by omega,by omega,by omega⟩⟩
  ·exact C6 (C8 hr2)
  ·rw [B6 (Ne.symm h0r)];exact C5 h0
  ·rw [B6 (by omega)];simp [uR,slC]
 ·have hA:=mE (h:=h++[rT [.i .i64 (k:Int),.s s,.i .i64 n],rT [.i .i64 (k:Int),.s s,.i .i64 n]]) (id:=id) (jd:=h.length+1) (n:=l.length) (m:=1) (sz:=3) (cs:=uR l) (ys:=[.i .i64 (k:Int),.s s,.i .i64 n]) (rw:=A5) (C5 hi) A0l (by simp) rfl rfl (by omega) (by omega);have hli:=C8 hi;have es:(h++[rT [.i .i64 (k:Int),.s s,.i .i64 n],rT [.i .i64 (k:Int),.s s,.i .i64 n]]).length=h.length+2:=by simp
  rw [es] at hA;have hr2:rd ((h++[rT [.i .i64 (k:Int),.s s,.i .i64 n],rT [.i .i64 (k:Int),.s s,.i .i64 n]]).set id A7++[rT (uR l++[.i .i64 (k:Int),.s s,.i .i64 n])]) r=rT [.sl id 0 l.length 3]:=by
   refine C5 ?_;rw [B6 hir];exact C5 hr
  have t1:=G8 (x:=.sl (h.length+2) 0 (l.length+1) 3) (off:=0) hr2 (by simp);refine ⟨.sl (h.length+2) 0 (l.length+1) 3,_,A13 (n:=0) (by rw [A1S];simp only [esc,esh,Nat.reduceAdd,l1,ef,hA,t1]<;>rfl),(((hlow.new _).set hbi _).new _).set hBr _,?_,?_,.inr ⟨h.length+2,by simp,?_,by omega,by omega,by omega⟩⟩
  ·exact C6 (C8 hr2)
  ·rw [B6 (Ne.symm h0r)];refine C5 ?_;rw [B6 hi0];exact C5 h0
  ·rw [B6 (by omega),D70];have:((h++[rT [.i .i64 (k:Int),.s s,.i .i64 n],rT [.i .i64 (k:Int),.s s,.i .i64 n]]).set id A7).length=h.length+2:=by simp
   rw [<-this];exact U5
def C0O {b:List UInt8} {r0 r q:Nat} {B:B5} (hb:b.length=256) (h0r:r0≠r) (hBr:B.length<=r) (hB0:B.length<=r0):∀ (e k m:Nat) (h:B5) (x:Cell) (l:List Slt),k+e=7->e<m->l.length<=k->Low B.length B h ->
  rd h r=rT [x]->rd h r0=rT (B4 b)->Held h x l B.length r0 r ->
  ∃ x' h',uA q m (.c (.f 212 [(r,0)])) (pV r0 0) (iV (k:Int)) h=A4 (.t [],h')/\Low B.length B h'/\rd h' r=rT [x']/\Held h' x' (l++N9 b e k) B.length r0 r
 | e,k,0,h,x,l,_,hm,_,_,_,_,_=>by omega
 | 0,k,m+1,h,x,l,hk,hm,hl,hlow,hr,h0,hd=>by
  have e0:k=7:=by omega
  subst e0;have c0:¬ ((7:Nat):Int)<7:=by omega
  refine ⟨x,h,?_,hlow,hr,by rw [N9,E6m];exact hd⟩;rw [oY];simp only [esc,c0]<;>rfl
 | e+1,k,m+1,h,x,l,hk,hm,hl,hlow,hr,h0,hd=>by
  have c0:(k:Int)<7:=by omega
  have hbl:(B4 b).length=256:=by rw [A9,hb]
  have s1:=C7 (h:=h) (id:=r0) h0 hbl;have hR:=B1g (h:=h) (k:=k) hb (by omega);have w1:=D3 (show k+1<9223372036854775808 by omega);have hcv:∀ (x:Val) (h:B5),A3R vA (.c (.f 212 [(r,0)])) [x] h=pS [x,pV r 0] h:=λ_ _=>Eq.trans rfl rfl
  rw [oY];cases hx:S7 b k with
  | none =>
   rw [hx] at hR;rw [zB hx];obtain ⟨x',h',f1,f2⟩:=C0O (q:=q) hb h0r hBr hB0 e (k+1) m (h++[rT ([.s [],o0])]) x l (by omega) (by omega) (by omega) (hlow.new _) (C5 hr) (C5 h0) (hd.more _);refine ⟨x',h',?_,f2⟩;generalize B4 b=y at *;simp only [esc,esh,Nat.reduceAdd,c0,s1,hR,X1,E6i,w1];exact f1
  | some en =>
   obtain ⟨s,n⟩:=en;rw [hx] at hR;rw [zC hx];have ef:E6 [o0,.s [],o0] [(0,1,iV (k:Int)),(1,2,.a [.s s,.i .i64 n])]=A4 [.i .i64 (k:Int),.s s,.i .i64 n]:=rfl;obtain ⟨x1,h1,g1,g2,g3,g4,g5⟩:=D9r (k:=k) (n:=n) (s:=s) (hlow.new [rT [.s s,.i .i64 n]]) (C5 hr) (C5 h0) h0r hBr hB0 (hd.more _) (by omega);obtain ⟨x',h',f1,f2,f3,f4⟩:=C0O (q:=q) hb h0r hBr hB0 e (k+1) m h1 x1 (l++[(k,(s,n))]) (by omega) (by omega) (by simp;omega) g2 g3 g4 g5;rw [E5Y,List.singleton_append] at f4;refine ⟨x',h',?_,f2,f3,f4⟩;generalize B4 b=y at *;simp only [esc,esh,Nat.reduceAdd,c0,s1,hR,X1,E6b,ef,hcv,g1,w1];exact f1
def A8V {b:List UInt8} {h:B5} (hb:b.length=256):∃ v t,yR [.a (B4 b)] h=A4 (v,h++t)/\Has (h++t) v 3 (O6 b).length (uR (O6 b))/\(t=[]/\v=.c .ns/\O6 b=[]\/t=[rT (uR (O6 b))]/\v=sV h.length 0 (O6 b).length 3):=by
 have key:∀ g,∃ x g',yP 8 [.a (B4 b)] g=A4 (.c x,g')/\Held g' x (O6 b) g.length (g.length+3) (g.length+2):=by
  intro g;have hbl:(B4 b).length=256:=by rw [A9,hb]
  have emk:B5U 212 [pV (g.length+2) 0]=A4 (.c (.f 212 [(g.length+2,0)])):=rfl;obtain ⟨x,h',f1,f2,f3,f4⟩:=C0O (b:=b) (r0:=g.length+3) (r:=g.length+2) (q:=8) (B:=g) hb (by omega) (by omega) (by omega) 7 0 8 (g++[rT (B4 b),rT [],rT [.ns],rT (B4 b)]) .ns [] (by omega) (by omega) (by simp)
   ((Low.refl (E5V _)).new _) (by simp) (by simp) (.inl ⟨rfl,rfl⟩)
  have hS:jR [.a (B4 b),.c (.f 212 [(g.length+2,0)])] (g++[rT (B4 b),rT [],rT [.ns]])=A4 (.t [],h'):=by
   refine A4L (n:=8) ?_;rw [A4p];simp only [esc,esh,Nat.reduceAdd];exact f1
  have t1:B8 h' (pV (g.length+2) 0)=A4 (.c x):=B9 (cs:=[x]) f3 rfl (by simp);rw [B9l];generalize B4 b=y at *;exact ⟨x,h',by simp only [esc,esh,Nat.reduceAdd,hbl,emk,hS,t1],f4⟩
 obtain ⟨x,g',e,hd⟩:=key (ro h);rcases hd with ⟨hl,rfl⟩ | ⟨id,rfl,hr,hbi,_⟩
 ·refine ⟨.c .ns,[],?_,?_,.inl ⟨rfl,rfl,hl⟩⟩
  ·rw [E6m];exact B7b e (by simp [Val.low,Cell.low,Cell.flat])
  ·rw [hl];exact .inl ⟨rfl,rfl,rfl⟩
 ·rw [F7] at hbi;refine ⟨sV h.length 0 (O6 b).length 3,[rT (uR (O6 b))],B7c e ⟨A0l,id,rfl,hbi,hr⟩ D7Z,Has.row (rw:=A5) (by simp) A0l D9C,.inr ⟨rfl,rfl⟩⟩
abbrev Tld:=Plc × List UInt8
def D6L {l:List Slt}:∀ {i:Nat} {x:Slt},l[i]?=A4 x->((uR l).drop (i*3)).take 3=slC (A4 x):=by
 induction l with
 | nil=>intro i x h;simp at h
 | cons y l ih =>
  intro i x h;have e:uR (y::l)=slC (A4 y)++uR l:=rfl;cases i with
  | zero=>simp at h;subst h;rw [e];rfl
  | succ i =>
   simp at h;rw [e,show (i+1)*3=3+i*3 by omega,<-E6P,List.drop_left' (by rw [nG])];exact ih h
def eY (b:List UInt8):(O6 b).length<=7:=by
 have:∀ e k,(N9 b e k).length<=e:=by
  intro e
  induction e with
  | zero=>intro k;simp [N9]
  | succ e ih =>
   intro k;have:=ih (k+1);rw [N9];split<;>simp<;>omega
 exact this 7 0
section
variable (n m m2:Nat) (a0 a1 x0 x1 x3 x4 x5 x6:Val) (h:B5)
def nR:FD A8:=⟨px 0X11b2010239f3050025a38031801320150000722401b1a195b027c1a17c4e7a7c777c7014b02203868173a01a18f421521307024061205b714a2c045f42030060511174182013013201500622401b6193b02481a74870101b6192b02381a73870101b18191c9051e1a01e18a71e701501205b740284f42033201042,[.c (.s [46]),.c (.s [46,46]),.c (.i .u8 0),.c (.i .u8 47)],[.idxS (.t 26) (.t 27),.idxS (.t 31) (.t 32)],[.tmp 2],[]⟩
def B6W:=nR.R
def B31:AtH:=nR.lj 0 n [m] [x0,x3]
def B7J:=tT [⟨2,2,B31⟩]
def C20:=mR B6W nR B7J n [a0] h
def A58:=mL nR B7J 0 n [m] [x0,x3] h
def A60:=nR.K Tryz.func246
def A09:=nR.S
def B7l:F6 B6W A09:=A60.flat
def gF:FD A8:=⟨px 0X13af205e3a02400001721cf4050021e1b031839f30041392b1017113e582f04182ef3001a13901017113e0383e1713c171824061205b712a1d044942153111a070241c90121a19022d42030060511119618201318f3001017113e06905b750574212481042,[.c (.i .u8 0)],[.idxS (.t 18) (.t 19)],[.tmp 2],[]⟩
def C1E:=gF.R
def B8d:AtH:=gF.lj 0 n [m] [x0,x3,x4]
def B8c:AtH:=gF.lj 1 n [m] [x0,x3,x4]
def B00:=tT [⟨2,3,B8d⟩,⟨2,3,B8c⟩]
def C4Q:=mR C1E gF B00 n [a0] h
def A8Z:=mL gF B00 0 n [m] [x0,x3,x4] h
def C3Z:=mJ gF B00 1 n [m] [x0,x3,x4] h
def A9I:=gF.K Tryz.func229
def A3u:=gF.S
def C3s:pY C1E A3u:=A9I.out
def yE:FD A8:=⟨px 0X11b148f207848030201312b20275001a22401b1c1906a4d04226a2f76a70116a2f5c6a70103f01034c2e01a7f420132df401380380502068041011d7171e019196001a201312b20275001a22401b1a193b05281a0281e101284f7287011cd032029750193b4203312b202042,[.c (.s []),.c (.i .u8 24)],[.slL 1 (.t 14) (A4 (.v (.c (.i .i64 1)))) (A4 (.t 19)),.b2s (.t 20)],[.tmp 2,.tmp 3],[E3 A09 A60,E3 A3u A9I,E3 gO lA]⟩
def A4t:=yE.R
def B9r:=mR A4t yE (tT []) n [a0] h
def B3w:=yE.K Tryz.func223
def A4O:=yE.S
def B5h:F6 A4t A4O:=B3w.flat
def qU:FD A8:=⟨px 0X14cf40061205b1f105b748060229f5050022e280318013ff400181223386816e12385a1716019580000173240183211384a15810383c172a0601969431531307024301a190612d1a02d18a2e2d71c2d701061205b71011a3f4203006051111b4203340130182,[],[.idxS (.t 18) (.t 19),.idxS (.t 21) (.t 22),.idxS (.t 25) (.t 26),.idxS (.t 28) (.t 29)],[.tmp 4],[]⟩
def C1D:=qU.R
def B8b:AtH:=qU.lj 0 n [m] [x0,x1,x5]
def C1P:=tT [⟨2,3,B8b⟩]
def C4P:=mR C1D qU C1P n [a0,a1] h
def A8Y:=mL qU C1P 0 n [m] [x0,x1,x5] h
def C1i:=qU.K Tryz.func227
def B0L:=qU.S
def B9W:F6 C1D B0L:=C1i.flat
def bH:FD A8:=⟨px 0X6af300613901013113e5f13f5f0518015ef203f12500001722403f4f5c021bb423320331cf6050021a1b031805bf111b40040411d6f17150192401b1e1904201882f5f188701881e0411884f781887718870103f6c11a19f55203724303a190494d01a20492f30491e041494f4c49774970491e0181494f507491a0494b3e4973c4970110520292c1d01e0197b4303355121a270240612029710142d4203016251111d42032b111b423111942150060514a174212481042,[.c (.s [])],[],[.tmp 2],[E3 B0L C1i]⟩
def A98:=bH.R
def A8a:AtH:=bH.lj 0 n [m] [x0,x3]
def B8e:AtH:=bH.lj 1 n [m,m2] [x0,x3,x4,x5,x6]
def D1M:AtH:=bH.lj 2 n [m,m2] [x0,x3,x4,x5,x6]
def A3M:=tT [⟨2,2,A8a⟩,⟨3,5,B8e⟩,⟨3,5,D1M⟩]
def C4R:=mR A98 bH A3M n [a0] h
def C30:=mL bH A3M 0 n [m] [x0,x3] h
def A80:=mL bH A3M 1 n [m,m2] [x0,x3,x4,x5,x6] h
def aT:=mJ bH A3M 2 n [m,m2] [x0,x3,x4,x5,x6] h
def C1j:=bH.K Tryz.func184
def B0M:=bH.S
def C5u:SOk A8 184 B0M:=C1j.sok
def C3t:pY A98 B0M:=C1j.out
end
def D2b {a b:List UInt8} {h:B5}:B0W [.c (.s a),.c (.s b)] h=A4 (bV (N2 a b),h) :=
 C0m (n:=0) (h2:=ro h) (by rw [C5e];simp only [esc]) rfl
def D0H (s t:List UInt8) (hs:s.length<9223372036854775807) (n:Nat) (h:B5):∀ d i m:Nat,i+d=s.length->d<m->i<=t.length ->
  B8b n m (.c (.s s)) (.c (.s t)) (iV i) h=A4 (bV (N2 (s.drop i) (t.drop i)),h)
 | d,i,0,_,hm,_=>by omega
 | 0,i,m+1,hi,hm,ht=>by
  have h1:¬ ((i:Int)<s.length):=by omega
  have h2:s.drop i=[]:=E56 (by omega);rw [A8Y,h2];cases h4:t.drop i with
  | nil =>
   have:¬ (s.length:Int)<t.length:=by have:=congrArg List.length h4;simp at this;omega
   simp only [esc,h1,this,N2]
  | cons x r =>
   have:(s.length:Int)<t.length:=by have:=congrArg List.length h4;simp at this;omega
   simp only [esc,h1,this,N2]
 | d+1,i,m+1,hi,hm,ht=>by
  have h1:(i:Int)<s.length:=by omega
  have h2:i<s.length:=by omega
  rw [A8Y,E5X h2];by_cases h3:i<t.length
  ·have h4:(i:Int)<t.length:=by omega
   have ih:=D0H s t hs n h d (i+1) m (by omega) (by omega) (by omega);rw [E5X h3];by_cases c:s[i]=t[i]
   ·simp only [esc,h1,h4,kR h2,kR h3,c,N2,UInt8.lt_irrefl,Bool.false_or,beq_self_eq_true,E55,D3 (show i+1<9223372036854775808 by omega)];exact ih
   ·have c':¬ (s[i].toNat:Int)=t[i].toNat:=λe=>c (UInt8.toNat_inj.1 (by omega))
    have c2:(s[i]==t[i])=A6:=by simp [c]
    have c3:((s[i].toNat:Int)<t[i].toNat)=(s[i]<t[i]):=by rw [UInt8.lt_iff_toNat_lt];simp
    simp only [esc,h1,h4,kR h2,kR h3,c',c2,N2,c3,E51,Bool.or_false]
  ·have h4:¬ (i:Int)<t.length:=by omega
   have h5:¬ (s.length:Int)<t.length:=by omega
   have h6:t.drop i=[]:=E56 (by omega);rw [h6];simp only [esc,h1,h4,h5,N2]
def B6s {s t:List UInt8} (hs:s.length<9223372036854775807) (h:B5):B0L [.c (.s s),.c (.s t)] h=A4 (bV (N2 s t),h):=by
 refine B9W (n:=s.length+1) (h2:=ro h) ?_ rfl;rw [C4P];have hl:=D0H s t hs (s.length+1) (ro h) s.length 0 (s.length+1) (by omega) (by omega) (by omega);simp only [E6a] at hl;exact hl
section
variable {α:Type} {lt:α -> α -> Prop}
def D4k (irr:∀ a,¬ lt a a) (tr:∀ a b c,lt a b->lt b c->lt a c):∀ {l m:List α},l.Pairwise lt->m.Pairwise lt->(∀ x,x∈l↔x∈m)->l=m
 | [],[],_,_,_=>rfl
 | [],y::m,_,_,h=>absurd ((h y).2 (E6g ..)) (by simp)
 | x::l,[],_,_,h=>absurd ((h x).1 (E6g ..)) (by simp)
 | x::l,y::m,hl,hm,h=>by
  rw [List.pairwise_cons] at hl hm;have e:x=y:=by
   rcases List.mem_cons.1 ((h x).1 (E6g ..)) with e | h1
   ·exact e
   ·rcases List.mem_cons.1 ((h y).2 (E6g ..)) with e | h2
    ·exact e.symm
    ·exact absurd (tr _ _ _ (hm.1 x h1) (hl.1 y h2)) (irr y)
  subst e;rw [D4k irr tr hl.2 hm.2 λz=>?_];constructor
  ·intro hz;rcases List.mem_cons.1 ((h z).1 (E6f _ hz)) with e | h1
   ·subst e;exact absurd (hl.1 z hz) (irr z)
   ·exact h1
  ·intro hz;rcases List.mem_cons.1 ((h z).2 (E6f _ hz)) with e | h1
   ·subst e;exact absurd (hm.1 z hz) (irr z)
   ·exact h1
def D4l (tr:∀ a b c,lt a b->lt b c->lt a c) (tot:∀ a b,lt a b\/a=b\/lt b a) {l:List α} {x:α} {p:Nat} (hl:l.Pairwise lt) (hx:x ∉ l) (h1:∀ y∈l.take p,lt y x) (h2:∀ y∈l.drop p,¬ lt y x) :
  (l.take p++x::l.drop p).Pairwise lt:=by
 have hl':=hl;rw [<-List.take_append_drop p l] at hl';rw [List.pairwise_append] at hl';obtain ⟨k1,k2,k3⟩:=hl';rw [List.pairwise_append];refine ⟨k1,?_,?_⟩
 ·rw [List.pairwise_cons];refine ⟨λy hy=>?_,k2⟩;rcases tot x y with h | h | h
  ·exact h
  ·subst h;exact absurd (List.mem_of_mem_drop hy) hx
  ·exact absurd h (h2 y hy)
 ·intro a ha b hb;rcases List.mem_cons.1 hb with e | hb
  ·subst e;exact h1 a ha
  ·exact k3 a ha b hb
def mem_insert {l:List α} {x y:α} {p:Nat}:y∈l.take p++x::l.drop p↔y=x\/y∈l:=by
 have e:y∈l↔y∈l.take p\/y∈l.drop p:=by rw [<-List.mem_append,List.take_append_drop]
 rw [List.mem_append,List.mem_cons,e];constructor
 ·rintro (h | h | h)
  ·exact .inr (.inl h)
  ·exact .inl h
  ·exact .inr (.inr h)
 ·rintro (h | h | h)
  ·exact .inr (.inl h)
  ·exact .inl h
  ·exact .inr (.inr h)
end
def rM:∀ a:List UInt8,N2 a a=A6
 | []=>rfl
 | x::a=>by simp [N2,rM a,UInt8.lt_irrefl]
def mI:∀ {a b c:List UInt8},N2 a b=A5->N2 b c=A5->N2 a c=A5
 | [],[],_,h,_=>by simp [N2] at h
 | [],_::_,[],_,h=>by simp [N2] at h
 | [],_::_,_::_,_,_=>rfl
 | _::_,[],_,h,_=>by simp [N2] at h
 | _::_,_::_,[],_,h=>by simp [N2] at h
 | x::a,y::b,z::c,h1,h2=>by
  simp only [N2,E6S,E5S,decide_eq_true_eq,beq_iff_eq] at h1 h2 ⊢;rcases h1 with h1 | ⟨rfl,h1⟩
  ·rcases h2 with h2 | ⟨rfl,h2⟩
   ·exact .inl (UInt8.lt_trans h1 h2)
   ·exact .inl h1
  ·rcases h2 with h2 | ⟨rfl,h2⟩
   ·exact .inl h2
   ·exact .inr ⟨rfl,mI h1 h2⟩
def C0E:∀ a b:List UInt8,N2 a b=A5\/a=b\/N2 b a=A5
 | [],[]=>.inr (.inl rfl)
 | [],_::_=>.inl rfl
 | _::_,[]=>.inr (.inr rfl)
 | x::a,y::b=>by
  simp only [N2,E6S,E5S,decide_eq_true_eq,beq_iff_eq,List.cons.injEq];rcases Nat.lt_trichotomy x.toNat y.toNat with h | h | h
  ·exact .inl (.inl (UInt8.lt_iff_toNat_lt.2 h))
  ·have e:=UInt8.toNat_inj.1 h;subst e;rcases C0E a b with h | h | h
   ·exact .inl (.inr ⟨rfl,h⟩)
   ·exact .inr (.inl ⟨rfl,h⟩)
   ·exact .inr (.inr (.inr ⟨rfl,h⟩))
  ·exact .inr (.inr (.inl (UInt8.lt_iff_toNat_lt.2 h)))
def plc (l:List (List UInt8)) (s:List UInt8):Nat->Nat->Nat->Nat
 | 0,lo,_=>lo
 | f+1,lo,hi=>if lo<hi then (if N2 (l.getD (lo+(hi-lo)/2) []) s then plc l s f (lo+(hi-lo)/2+1) hi else plc l s f lo (lo+(hi-lo)/2)) else lo
def D5x (l:List (List UInt8)) (s:List UInt8):∀ f lo hi,lo<=hi->plc l s f lo hi<=hi
 | 0,lo,hi,h=>h
 | f+1,lo,hi,h=>by
  unfold plc;split
  ·split
   ·exact D5x l s f _ hi (by omega)
   ·exact E6w (D5x l s f lo _ (by omega)) (by omega)
  ·exact h
def C7O {l:List (List UInt8)} {s:List UInt8} (hl:l.Pairwise λa b=>N2 a b=A5):∀ f lo hi,lo<=hi->hi<=l.length->hi-lo<=f->(∀ i x,i<lo->l[i]?=A4 x->N2 x s=A5)->(∀ i x,hi<=i->l[i]?=A4 x->N2 x s=A6) ->
  (∀ i x,i<plc l s f lo hi->l[i]?=A4 x->N2 x s=A5)/\(∀ i x,plc l s f lo hi<=i->l[i]?=A4 x->N2 x s=A6)
 | 0,lo,hi,h,_,hf,h1,h2=>by
  have:hi=lo:=by omega
  subst this;exact ⟨h1,h2⟩
 | f+1,lo,hi,h,hh,hf,h1,h2=>by
  unfold plc;by_cases c:lo<hi
  ·rw [if_pos c];have hm:lo+(hi-lo)/2<hi:=by omega
   have hlo:lo<=lo+(hi-lo)/2:=by omega
   generalize lo+(hi-lo)/2=mid at *;have hg:l[mid]?=A4 (l.getD mid []):=by rw [E5Z,E5P (by omega)];rfl
   have mono:∀ (i j:Nat) (x y:List UInt8),i<j->l[i]?=A4 x->l[j]?=A4 y->N2 x y=A5:=by
    intro i j x y hij hi hj;rw [List.pairwise_iff_getElem] at hl;obtain ⟨a,rfl⟩:=List.getElem?_eq_some_iff.1 hi;obtain ⟨b,rfl⟩:=List.getElem?_eq_some_iff.1 hj;exact hl i j a b hij
   cases cb:N2 (l.getD mid []) s with
   | true =>
    rw [if_pos rfl];refine C7O hl f (mid+1) hi (by omega) hh (by omega) (λi x hi hx=>?_) h2;by_cases e:i=mid
    ·subst e;rw [hg] at hx;rw [<-Option.some.inj hx];exact cb
    ·exact mI (mono i mid x _ (by omega) hx hg) cb
   | false =>
    rw [if_neg (by simp)];refine C7O hl f lo mid (by omega) (by omega) (by omega) h1 (λi x hi hx=>?_);by_cases e:i=mid
    ·subst e;rw [hg] at hx;rw [<-Option.some.inj hx];exact cb
    ·cases cx:N2 x s with
     | false=>rfl
     | true=>rw [mI (mono mid i _ x (by omega) hg hx) cx] at cb;exact cb
  ·rw [if_neg c];have:hi=lo:=by omega
   subst this;exact ⟨h1,h2⟩
def C34 (l:List (List UInt8)) (s:List UInt8) (n:Nat):Bool:=decide (l[n]?=A4 s)
def A56 (l:List (List UInt8)) (i:Nat):(encS l)[i]?=(l[i]?).map λx=>.s x:=by simp [encS]
def B6p {v:Val} {nv q:Nat} {l:List (List UInt8)} {s:List UInt8} {h:B5} (hv:Has h v 1 nv (encS l)) (hn:l.length=nv) (h62:nv<4611686018427387904):∀ f m lo hi:Nat,lo<=hi->hi<=nv->hi-lo<=f->f<m ->
  A5s q m v (.c (.s s)) (iV lo) (iV hi) h=A4 (.t [.c (.i .i64 (plc l s f lo hi:Nat)),.c (.b (C34 l s (plc l s f lo hi)))],h)
 | f,0,lo,hi,_,_,_,hm=>by omega
 | f,m+1,lo,hi,h1,h2,hf,hm=>by
  have hlen:=hv.len;have fin:lo=hi->A5s q (m+1) v (.c (.s s)) (iV lo) (iV hi) h=A4 (.t [.c (.i .i64 lo),.c (.b (C34 l s lo))],h):=by
   intro e;subst e;have c0:¬ (lo:Int)<lo:=by omega
   rw [A6z];unfold C34;by_cases c1:lo<nv
   ·have c1':(lo:Int)<nv:=by omega
    obtain ⟨id,off,ev,hid,k1,k2⟩:=hv.sl (by omega);have hx:=k1 lo (.s l[lo]) (by rw [A56,E5P (by omega)];rfl);have eb:D9 1 v (iV (lo:Int))=A4 (pV id (off+lo)):=by rw [ev,C9 (by omega)];simp
    have e2:l[lo]?=A4 l[lo]:=E5P (by omega);rw [e2];simp only [esc,hlen,c0,c1',eb,hx]
   ·have c1':¬ (lo:Int)<nv:=by omega
    have e2:l[lo]?=A7:=E6x (by omega);rw [e2];simp only [esc,hlen,c0,c1',reduceCtorEq]
  cases f with
  | zero =>
   have e:lo=hi:=by omega
   exact fin e
  | succ f =>
   unfold plc;by_cases c:lo<hi
   ·rw [if_pos c];have c':(lo:Int)<hi:=by omega
    obtain ⟨id,off,ev,hid,k1,k2⟩:=hv.sl (by omega);have w1:E5U .i64 ((hi:Int)-lo)=((hi-lo:Nat):Int):=by rw [wrap_i64 (by omega) (by omega)];omega
    have w2:=uQ (a:=((hi-lo:Nat):Int)) (b:=2) (by omega) (by omega) (by omega);have w3:((hi-lo:Nat):Int)/2=(((hi-lo)/2:Nat):Int):=by omega
    rw [w3] at w2;have w4:E5U .i64 ((lo:Int)+(((hi-lo)/2:Nat):Int))=((lo+(hi-lo)/2:Nat):Int):=A2O (by omega);have hm1:lo+(hi-lo)/2<hi:=by omega
    have hm2:lo<=lo+(hi-lo)/2:=by omega
    generalize (hi-lo)/2=d at *;generalize lo+d=mid at *;have hx:=k1 mid (.s l[mid]) (by rw [A56,E5P (by omega)];rfl);have eb:D9 1 v (iV (mid:Int))=A4 (pV id (off+mid)):=by rw [ev,C9 (by omega)];simp
    have eg:l.getD mid []=l[mid]:=by rw [E5Z,E5P (by omega)];rfl
    rw [eg];have hL:=λh=>D2b (a:=l[mid]) (b:=s) (h:=h)
    rw [A6z];cases cb:N2 l[mid] s with
    | true =>
     rw [cb] at hL;have ih:=B6p (q:=q) (s:=s) hv hn h62 f m (mid+1) hi (by omega) h2 (by omega) (by omega);rw [if_pos rfl];simp only [esc,hlen,c',w1,w2,w4,eb,hx,hL,D3 (show mid+1<9223372036854775808 by omega)];exact ih
    | false =>
     rw [cb] at hL;have ih:=B6p (q:=q) (s:=s) hv hn h62 f m lo mid hm2 (by omega) (by omega) (by omega);rw [if_neg (by simp)];simp only [esc,hlen,c',w1,w2,w4,eb,hx,hL];exact ih
   ·rw [if_neg c];exact fin (by omega)
def C9w {v:Val} {nv:Nat} {l:List (List UInt8)} {s:List UInt8} {h:B5} (hv:Has h v 1 nv (encS l)) (h62:nv<4611686018427387904) :
  A1e [v,.c (.s s)] h=A4 (.t [.c (.i .i64 (plc l s nv 0 nv:Nat)),.c (.b (C34 l s (plc l s nv 0 nv)))],h):=by
 have hn:l.length=nv:=by simpa [N8] using hv.length
 have key:∀ N,nv<N->∀ g,Has g v 1 nv (encS l)->∃ g',A7q N [v,.c (.s s)] g=A4 (.t [.c (.i .i64 (plc l s nv 0 nv:Nat)),.c (.b (C34 l s (plc l s nv 0 nv)))],g'):=by
  intro N hN g hv;have e:=B6p (q:=N) (s:=s) hv hn h62 nv N 0 nv (by omega) (by omega) (by omega) hN;rw [C3h];exact ⟨_,by simp only [esc,hv.len];exact e⟩
 obtain ⟨g',e⟩:=key (nv+1) (by omega) (ro h) hv.ro;exact B7A e rfl
def D4x {id n a:Nat} (ha:a<=n):D29 1 (sV id 0 n 1) (A4 (iV (a:Int))) A7=A4 (sV id a (n-a) 1):=by
 simp only [D29,bound];rw [if_pos (by omega)];simp only [E54,E6c];rw [if_pos ⟨ha,E5V _,trivial⟩];simp
def D8E {H:B5} {id k p:Nat} {out:List (List UInt8)} (hr:rd H id=rT (encS (out++[[]]))) (hk:out.length=k) (hp:p<=k) :
  ∃ c,C6b H 1 (sV id (p+1) (k-p) 1) (sV id p (k+1-p) 1)=A4 (c,H.set id (rT (encS ((out++[[]]).take (p+1)++out.drop p)))):=by
 have hl:(encS (out++[[]])).length=k+1:=by rw [N8];simp [hk]
 have h1:((encS (out++[[]])).drop p).take (k+1-p)=(encS (out++[[]])).drop p:=E53 (by rw [E6O];omega);have h2:Q6 H 1 (sV id p (k+1-p) 1)=A4 ((encS (out++[[]])).drop p):=by
  simp only [Q6,if_true,iW,hr,E54,Nat.mul_one,h1];rw [if_pos ⟨by omega,by simp⟩]
 have h3:((encS (out++[[]])).drop p).length=k+1-p:=by rw [E6O];omega
 have h4:Nat.min (k+1-p) (k-p)=k-p:=Nat.min_eq_right (by omega);have h5:lay (encS (out++[[]])) (p+1) (((encS (out++[[]])).drop p).take (k-p))=encS ((out++[[]]).take (p+1)++out.drop p):=by
  unfold lay;have e1:((encS (out++[[]])).drop p).take (k-p)=encS (out.drop p):=by
   unfold encS;rw [E6N,List.drop_append_of_le_length (by simp;omega),List.take_append_of_le_length (by simp;omega),E53 (by simp;omega),List.map_drop]
  have e2:(encS (out++[[]])).drop (p+1+(encS (out.drop p)).length)=[]:=E56 (by rw [hl,N8,E6O];omega);rw [e1,e2];simp only [E6m,encS,E6N,List.map_take,List.map_drop]
 refine ⟨iV ((k-p:Nat):Int),?_⟩;simp only [C6b,h2,E54,hr,h3,Nat.div_one,h4,Nat.mul_one,h5];rw [if_pos ⟨trivial,by omega,trivial⟩]
abbrev W8:=List (List UInt8)
def atS (o:W8) (s:List UInt8):Nat:=plc o s o.length 0 o.length
def A6u (o:W8) (s:List UInt8):W8:=bif C34 o s (atS o s) then o else o.take (atS o s)++s::o.drop (atS o s)
def gX (l:W8):W8:=l.foldl A6u []
def D8s (o:W8) (s:List UInt8):atS o s<=o.length:=D5x o s _ _ _ (Nat.zero_le _)
def C2C (o:W8) (s:List UInt8):(A6u o s).length<=o.length+1:=by
 have:=D8s o s;unfold A6u;cases C34 o s (atS o s)<;>simp<;>omega
def D1R (l:W8):∀ o:W8,(l.foldl A6u o).length<=o.length+l.length:=by
 induction l with
 | nil=>intro o;simp
 | cons x l ih =>
  intro o;have h1:=ih (A6u o x);have h2:=C2C o x;simp only [List.foldl_cons,E52] at h1 ⊢;omega
def A8B (l:W8):(gX l).length<=l.length:=by
 have:=D1R l [];simpa [gX] using this
abbrev Up (l:W8):Prop:=l.Pairwise λa b=>N2 a b=A5
def D3a {o:W8} {s:List UInt8} (ho:Up o):(∀ i x,i<atS o s->o[i]?=A4 x->N2 x s=A5)/\(∀ i x,atS o s<=i->o[i]?=A4 x->N2 x s=A6) :=
 C7O ho o.length 0 o.length (Nat.zero_le _) (E5V _) (by omega) (λi x hi=>by omega) (λi x hi hx=>by
  have:=(List.getElem?_eq_some_iff.1 hx).1;omega)
def D3Q {o:W8} {s:List UInt8} (ho:Up o):C34 o s (atS o s)=A5↔s∈o:=by
 unfold C34;rw [decide_eq_true_eq];constructor
 ·intro h;exact E6j h
 ·intro h;obtain ⟨i,hi⟩:=List.mem_iff_getElem?.1 h;obtain ⟨h1,h2⟩:=D3a (s:=s) ho;have hge:atS o s<=i:=by
   false_or_by_contra
   have:=h1 i s (by omega) hi;rw [rM] at this;cases this
  by_cases e:atS o s=i
  ·rw [e];exact hi
  ·have P6:=(List.getElem?_eq_some_iff.1 hi).1;have hg:o[atS o s]?=A4 o[atS o s]:=E5P (by omega);have k1:=h2 _ _ (E5V _) hg;have k2:N2 o[atS o s] s=A5:=by
    obtain ⟨a,ha⟩:=List.getElem?_eq_some_iff.1 hi;have:=List.pairwise_iff_getElem.1 ho (atS o s) i (by omega) a (by omega);rw [ha] at this;exact this
   rw [k1] at k2;cases k2
def E02 {o:W8} {s:List UInt8} (ho:Up o):Up (A6u o s)/\∀ x,x∈A6u o s↔x=s\/x∈o:=by
 unfold A6u;cases c:C34 o s (atS o s) with
 | true =>
  have hm:=(D3Q ho).1 c;rw [cond_true];exact ⟨ho,λx=>⟨λh=>.inr h,λh=>by rcases h with h | h;subst h;exact hm;exact h⟩⟩
 | false =>
  have hm:s ∉ o:=λh=>by rw [(D3Q ho).2 h] at c;cases c
  obtain ⟨h1,h2⟩:=D3a (s:=s) ho;rw [cond_false];refine ⟨D4l (lt:=λa b=>N2 a b=A5) (λa b c=>mI) (λa b=>C0E a b) ho hm (λy hy=>?_) (λy hy=>?_),λx=>mem_insert⟩
  ·obtain ⟨i,hi⟩:=List.mem_iff_getElem?.1 hy;have hl:=(List.getElem?_eq_some_iff.1 hi).1;rw [E6l] at hl;rw [E6s (by omega)] at hi;exact h1 i y (by omega) hi
  ·obtain ⟨i,hi⟩:=List.mem_iff_getElem?.1 hy;rw [E6J] at hi;have:=h2 _ y (by omega) hi;rw [this];simp
def D3J (l:W8):∀ o:W8,Up o->Up (l.foldl A6u o)/\∀ x,x∈l.foldl A6u o↔x∈o\/x∈l:=by
 induction l with
 | nil=>intro o ho;exact ⟨ho,λx=>by simp⟩
 | cons y l ih =>
  intro o ho;obtain ⟨h1,h2⟩:=E02 (s:=y) ho;obtain ⟨h3,h4⟩:=ih _ h1;refine ⟨h3,λx=>?_⟩;rw [List.foldl_cons,h4,h2,List.mem_cons];constructor
  ·rintro ((h | h) | h)
   ·exact .inr (.inl h)
   ·exact .inl h
   ·exact .inr (.inr h)
  ·rintro (h | h | h)
   ·exact .inl (.inr h)
   ·exact .inl (.inl h)
   ·exact .inr h
def E0h (l:W8):Up (gX l):=(D3J l [] List.Pairwise.nil).1
def B3a (l:W8) (x:List UInt8):x∈gX l↔x∈l:=by
 have:=(D3J l [] List.Pairwise.nil).2 x;simpa [gX] using this
def E3A {l m:W8} (hl:Up l) (hm:Up m) (h:∀ x,x∈l↔x∈m):l=m :=
 D4k (lt:=λa b=>N2 a b=A5) (λa=>by rw [rM];simp) (λa b c=>mI) hl hm h
def C09 {v:Val} {nv q:Nat} {l:W8} {g:B5} (hv:Has g v 1 nv (encS l)) (hn:l.length=nv) (h62:nv<1073741824):∀ (e i m:Nat) (o:W8) (h:B5) (id:Nat),i+e=nv->e<m->o.length<=i->Low g.length g h->g.length<=id->rd h id=rT (encS o) ->
  ∃ v2 h2,B8F q m (sV id 0 o.length 1) v (iV nv) (iV i) h=A4 (v2,h2)/\Out g.length h2 v2 1 ((l.drop i).foldl A6u o).length (encS ((l.drop i).foldl A6u o))
 | e,i,0,o,h,id,_,hm,_,_,_,_=>by omega
 | 0,i,m+1,o,h,id,hi,hm,hol,hlow,hid,hr=>by
  have e0:i=nv:=by omega
  subst e0;have c0:¬ (i:Int)<i:=by omega
  rw [A9m,E56 (by omega),List.foldl_nil];exact ⟨_,_,by simp only [esc,c0]<;>rfl,by rw [N8];omega,_,rfl,hid,hr⟩
 | e+1,i,m+1,o,h,id,hi,hm,hol,hlow,hid,hr=>by
  have c0:(i:Int)<nv:=by omega
  obtain ⟨jd,off,ev,hjd,k1,k2⟩:=(hv.since hlow).sl (by omega);have hx:=k1 i (.s l[i]) (by rw [A56,E5P (by omega)];rfl);have eb:D9 1 v (iV (i:Int))=A4 (pV jd (off+i)):=by rw [ev,C9 (by omega)];simp
  have hP:=C9w (s:=l[i]) (Has.row (sz:=1) (n:=o.length) hr (by rw [N8];omega) (B8H o)) (by omega);rw [E5X (by omega:i<l.length),List.foldl_cons];change A1e _ h=A4 (.t [.c (.i .i64 (atS o l[i]:Nat)),.c (.b (C34 o l[i] (atS o l[i])))],h) at hP;have hat:=D8s o l[i];rw [A9m];generalize hs:l[i]=s at *;cases c:C34 o s (atS o s) with
  | true =>
   have ei:A6u o s=o:=by unfold A6u;rw [c,cond_true]
   rw [c] at hP;obtain ⟨v2,h2,f1,f2⟩:=C09 (q:=q) hv hn h62 e (i+1) m o h id (by omega) (by omega) (by omega) hlow hid hr;rw [ei];refine ⟨v2,h2,?_,f2⟩;simp only [esc,c0,eb,hx,hP,A9l,D3 (show i+1<9223372036854775808 by omega)];exact f1
  | false =>
   have ei:A6u o s=o.take (atS o s)++s::o.drop (atS o s):=by unfold A6u;rw [c,cond_false]
   rw [c] at hP;have il:=C2C o s;generalize hp:atS o s=p at *;obtain ⟨h1,a1,a2,a3,a4,a5⟩:=push (ys:=[.s []]) (sz:=1) (n:=o.length) hlow hr (by rw [N8];omega) hid rfl (by omega) (by omega);have he:encS o++[.s []]=encS (o++[[]]):=by simp [encS]
   rw [he] at a2;have ef:E6 [Cell.s []] [(0,1,.c (.s []))]=A4 [.s []]:=rfl;have w1:E5U .i64 ((p:Int)+1)=((p+1:Nat):Int):=D3 (by omega);have t1:=D4x (id:=h.length+1) (n:=o.length+1) (a:=p+1) (by omega);have t2:=D4x (id:=h.length+1) (n:=o.length+1) (a:=p) (by omega);rw [show o.length+1-(p+1)=o.length-p by omega] at t1;obtain ⟨cc,t3⟩:=D8E (H:=h1) (id:=h.length+1) (k:=o.length) (p:=p) a2 rfl hat;have t4:D9 1 (sV (h.length+1) 0 (o.length+1) 1) (iV (p:Int))=A4 (pV (h.length+1) p):=by rw [C9 (by omega)];simp
   have V7:=C8 a2;have t5:rd (h1.set (h.length+1) (rT (encS ((o++[[]]).take (p+1)++o.drop p)))) (h.length+1)=rT (encS ((o++[[]]).take (p+1)++o.drop p)):=C6 V7;have t6:=G8 (x:=.s s) (off:=p) t5 (by rw [N8,E5T,E6l,E5T];simp;omega);have t7:(encS ((o++[[]]).take (p+1)++o.drop p)).set p (.s s)=encS (A6u o s):=by
    rw [ei];have e1:(o++[[]]).take (p+1)=o.take p++[(o++[[]])[p]'(by simp;omega)]:=by
     rw [E58 (by simp;omega),List.take_append_of_le_length hat]
    rw [e1];unfold encS;rw [<-List.map_set]
    congr 1
    rw [E5Y,E6u _ _ (by simp;omega),E6l,E6R hat,E6D];rfl
   rw [List.set_set,t7] at t6;obtain ⟨v2,h2,f1,f2⟩:=C09 (q:=q) hv hn h62 e (i+1) m (A6u o s) (h1.set (h.length+1) (rT (encS (A6u o s)))) (h.length+1) (by omega) (by omega) (by omega) (a3.set a4 _) a4 (C6 V7);have el:(A6u o s).length=o.length+1:=by rw [ei];simp;omega
   rw [el] at f1;refine ⟨v2,h2,?_,f2⟩;simp only [esc,c0,eb,hx,hP,ef,a1,w1,t1,t2,t3,t4,t6,A9l,D3 (show i+1<9223372036854775808 by omega)];exact f1
def D2c {v:Val} {nv:Nat} {l:W8} {h:B5} (hv:Has h v 1 nv (encS l)) (h62:nv<1073741824) :
  B0X [v] h=A4 (sV h.length 0 (gX l).length 1,h++[rT (encS (gX l))]):=by
 have hn:l.length=nv:=by simpa [N8] using hv.length
 have key:∀ N,nv<N->∀ g,Has g v 1 nv (encS l)->∃ v2 g',B0p N [v] g=A4 (v2,g')/\Out g.length g' v2 1 (gX l).length (encS (gX l)):=by
  intro N hN g hv;obtain ⟨v2,g',f1,f2⟩:=C09 (q:=N) hv hn h62 nv 0 N [] ((g++[rT []])++[rT []]) (g.length+1) (by omega) hN (E5V _) (((Low.refl (E5V _)).new _).new _) (by omega) (by simp [encS]);rw [E6a] at f2;rw [C5g];refine ⟨v2,g',?_,f2⟩;rw [hv.len,M9];simpa using f1
 obtain ⟨v2,g',e,ho⟩:=key (nv+1) (by omega) (ro h) hv.ro;exact C3S e (by simpa [F7] using ho) (by simp)
def W3 (l:List Ent):List Cell:=(l.map λx=>X1 (A4 x)).flatten
def A78 {l:List Ent}:(W3 l).length=l.length*2:=by
 induction l with
 | nil=>rfl
 | cons x l ih=>simp only [W3,E6X,List.flatten_cons,E5T,X1,E52,E6h] at ih ⊢;omega
def D8X {k:Nat} {x:Ent} {r:List Cell}:List.drop ((k+1)*2) (X1 (A4 x)++r)=List.drop (k*2) r:=by
 rw [show (k+1)*2=k*2+2 by omega];rfl
def B78:∀ (l:List Ent) (k:Nat) (hk:k<l.length),((W3 l).drop (k*2)).take 2=X1 (A4 l[k])
 | [],k,hk=>by simp at hk
 | x::l,0,_=>rfl
 | x::l,k+1,hk=>by
  have e:W3 (x::l)=X1 (A4 x)++W3 l:=rfl;rw [e,D8X,List.getElem_cons_succ];exact B78 l k (by simpa using hk)
def gC (l:List Ent) (k:Nat):Ent:=l.getD k ([],0)
def B77 {l:List Ent} {k:Nat} (hk:k<l.length):gC l k=l[k]:=by simp [gC,List.getD,hk]
def jX (l:List Ent):Nat->List UInt8
 | 0=>hdB
 | k+1=>J7 (jX l k) (L9 k) (Z1 (gC l k).1 (gC l k).2)
def gW {l:List Ent}:∀ k,k<=7->(jX l k).length=256
 | 0,_=>A8i
 | k+1,hk=>by rw [jX,P9 (by rw [gW k (by omega),Z2];unfold L9;omega)];exact gW k (by omega)
def atX (b nm:List UInt8):Nat:=match X8 b nm with
 | some x=>x.1
 | none=>0
def E3s {o:Option Slt}:(slC o)[0]?=A4 (.i .i64 ((match o with | some x=>x.1 | none=>0:Nat):Int)):=by cases o<;>rfl
def D0N (l:List Ent) (k:Nat):Bool:=decide (atX (jX l l.length) (gC l k).1=k)
def B8P (l:List Ent):Bool:=(E6y 0 l.length).all (D0N l)
def C9r (l:List Ent):Bool:=l.all λx=>A2W x.1 x.2
def D9A {v:Val} {nv q:Nat} {l:List Ent} {B:B5} {g:Nat} (hv:Has B v 2 nv (W3 l)) (hn:l.length=nv) (h7:nv<=7) (hg:rd B g=rT (B4 (zeros 256))):∀ (e k m:Nat) (h:B5),k+e=nv->e<m->Low B.length B h->rd h B.length=rT (B4 (jX l nv)) ->
  ∃ h',B3V q m (.c (.p g 0)) (.c (.p B.length 0)) v (.c (.i .i64 (nv:Int))) (.c (.i .i64 (k:Int))) h=A4 (.t [.a (B4 (bif (E6y k e).all (D0N l) then jX l nv else zeros 256)),.c (.i .i64 (bif (E6y k e).all (D0N l) then 0 else 5))],h')
 | e,k,0,h,_,hm,_,_=>by omega
 | 0,k,m+1,h,hk,hm,hlow,hr=>by
  have e0:k=nv:=by omega
  subst e0;have c0:¬ (k:Int)<k:=by omega
  have hL:(B4 (jX l k)).length=256:=by rw [A9];exact gW k h7
  have hz:(B4 (zeros 256)).length=256:=by rw [A9];exact zeros_length
  have hrg:=hlow.rd hg;have s1:=C7 hr hL;have s2:=storeAll (xs:=B4 (jX l k)) hrg hz hL;have s3:=C7 (h:=h.set g (rT (B4 (jX l k)))) (id:=g) (C6 (C8 hrg)) hL;rw [A5X,List.range'_zero,List.all_nil,cond_true,cond_true];generalize B4 (jX l k)=y at *;exact ⟨_,by simp only [esc,c0,s1,s2,s3]<;>rfl⟩
 | e+1,k,m+1,h,hk,hm,hlow,hr=>by
  have c0:(k:Int)<nv:=by omega
  have hL:(B4 (jX l nv)).length=256:=by rw [A9];exact gW nv h7
  have hvB:Has h v 2 nv (W3 l):=by
   refine hv.low hlow λid off m he=>?_
   rcases hv with ⟨rfl,_⟩ | ⟨bT,off',r',rfl,hrd,_⟩
   ·cases he
   ·cases he;exact C8 hrd
  obtain ⟨id,off,ev,hid,k1,k2⟩:=hvB.sl (by omega);have eb:D9 2 v (.c (.i .i64 (k:Int)))=A4 (.c (.p id (off+k*2))):=by rw [ev,C9 (by omega)]
  have hld:=k2 (k*2) 2 (by rw [A78];omega);rw [B78 l k (by omega),<-B77 (by omega)] at hld;have w1:=D3 (show k+1<9223372036854775808 by omega);have hF:=λh=>B1f (b:=jX l nv) (nm:=(gC l k).1) (h:=h) (gW nv h7)
  have s1:=λt=>C7 (h:=h++t) (C5 hr) hL
  have hat:(slC (X8 (jX l nv) (gC l k).1))[0]?=A4 (.i .i64 (atX (jX l nv) (gC l k).1:Nat)):=E3s;have hSl:=nG (o:=X8 (jX l nv) (gC l k).1);rw [A5X,List.range'_succ,E6B];have hon:D0N l k=decide (atX (jX l nv) (gC l k).1=k):=by unfold D0N;rw [hn]
  rw [hon];generalize slC (X8 (jX l nv) (gC l k).1)=S at *;generalize atX (jX l nv) (gC l k).1=A at *;obtain ⟨h',ih⟩:=D9A (q:=q) hv hn h7 hg e (k+1) m (h++[rT (X1 (A4 (gC l k))),rT S]) (by omega) (by omega) (hlow.new _) (C5 hr);simp only [X1] at *;by_cases c:A=k
  ·subst c;rw [decide_eq_true rfl,E55];refine ⟨h',?_⟩;generalize B4 (jX l nv)=y at *;simp only [esc,esh,Nat.reduceAdd,c0,eb,hld,s1,hF,hat,hSl,w1];exact ih
  ·rw [decide_eq_false c,E51,cond_false,cond_false];have c':¬ (A:Int)=k:=by omega
   have hz:(B4 (zeros 256)).length=256:=by rw [A9];exact zeros_length
   have hrg:=λt:B5=>C5 (g:=t) (hlow.rd hg)
   have haf:E6 (E5R 256 (Cell.i .u8 0)) []=A4 (E5R 256 (Cell.i .u8 0)):=rfl;rw [I9] at haf;have s2:=λt=>storeAll (xs:=B4 (zeros 256)) (hrg t) hz hz
   have s3:=λt=>C7 (h:=(h++t).set g (rT (B4 (zeros 256)))) (id:=g) (C6 (C8 (hrg t))) hz
   rw [I9];generalize zeros 256=z at *;generalize B4 (jX l nv)=y at *;exact ⟨_,by simp only [esc,esh,Nat.reduceAdd,c0,eb,hld,s1,hF,hat,hSl,c',haf,s2,s3]<;>rfl⟩
def D9z {v:Val} {nv q:Nat} {l:List Ent} {B:B5} {g:Nat} (hv:Has B v 2 nv (W3 l)) (hn:l.length=nv) (h7:nv<=7) (hs:∀ x∈l,x.1.length<=60) (hg:rd B g=rT (B4 (zeros 256))) (hq:nv<q):∀ (e k m:Nat) (h:B5),k+e=nv->e<m->Low B.length B h->rd h B.length=rT (B4 (jX l k)) ->
  ∃ h',B3U q m v (.c (.p g 0)) (.c (.p B.length 0)) v (.c (.i .i64 (nv:Int))) (.c (.i .i64 (k:Int))) h=A4 (.t [.a (B4 (bif C9r (l.drop k)&&B8P l then jX l nv else zeros 256)),.c (.i .i64 (bif C9r (l.drop k) then (bif B8P l then 0 else 5) else 1))],h')
 | e,k,0,h,_,hm,_,_=>by omega
 | 0,k,m+1,h,hk,hm,hlow,hr=>by
  have e0:k=nv:=by omega
  subst e0;have c0:¬ (k:Int)<k:=by omega
  have hvB:Has h v 2 k (W3 l):=by
   refine hv.low hlow λid off m he=>?_
   rcases hv with ⟨rfl,_⟩ | ⟨bT,off',r',rfl,hrd,_⟩
   ·cases he
   ·cases he;exact C8 hrd
  obtain ⟨h',e⟩:=D9A (q:=q) hv hn h7 hg k 0 q h (by omega) hq hlow hr;have em:C9r (l.drop k)=A5:=by rw [E56 (by omega)];rfl
  have eo:(E6y 0 k).all (D0N l)=B8P l:=by unfold B8P;rw [hn]
  rw [eo] at e;rw [A5W,em,E55,cond_true];exact ⟨h',by simp only [esc,c0,hvB.len];exact e⟩
 | e+1,k,m+1,h,hk,hm,hlow,hr=>by
  have c0:(k:Int)<nv:=by omega
  have hNl:=gW (l:=l) k (by omega);have hL:(B4 (jX l k)).length=256:=by rw [A9];exact hNl
  have hvB:Has h v 2 nv (W3 l):=by
   refine hv.low hlow λid off m he=>?_
   rcases hv with ⟨rfl,_⟩ | ⟨bT,off',r',rfl,hrd,_⟩
   ·cases he
   ·cases he;exact C8 hrd
  obtain ⟨id,off,ev,hid,k1,k2⟩:=hvB.sl (by omega);have eb:D9 2 v (.c (.i .i64 (k:Int)))=A4 (.c (.p id (off+k*2))):=by rw [ev,C9 (by omega)]
  have hld:=k2 (k*2) 2 (by rw [A78];omega);rw [B78 l k (by omega),<-B77 (by omega)] at hld;have w1:=D3 (show k+1<9223372036854775808 by omega);have hsk:(gC l k).1.length<=60:=by rw [B77 (by omega)];exact hs _ (E6v _)
  have hM:=λh=>A47 (s:=(gC l k).1) (n:=(gC l k).2) (h:=h) (by omega)
  have hW:=λh=>uB (s:=(gC l k).1) (n:=(gC l k).2) (h:=h) (by omega)
  have hF:=λh=>pW (k:=k) (h:=h) (by omega)
  have hmd:C9r (l.drop k)=(A2W (gC l k).1 (gC l k).2&&C9r (l.drop (k+1))):=by
   rw [E5X (by omega:k<l.length),B77 (by omega)];rfl
  have hEl:(Z1 (gC l k).1 (gC l k).2).length=32:=Z2;have hLy:=B6n (v:=.c (.sl (h.length+1) 0 32 1)) (nv:=32) (data:=Z1 (gC l k).1 (gC l k).2) (l:=jX l k) (h:=h++[rT (X1 (A4 (gC l k))),rT (B4 (Z1 (gC l k).1 (gC l k).2))]) (Has.row (rw:=A5) (by simp) (by rw [A9,Z2]) (G9 _)) hNl (by rw [hEl];omega) (a:=(L9 k:Nat));have elay:A9E (jX l k) (L9 k:Nat) (Z1 (gC l k).1 (gC l k).2)=jX l (k+1):=by
   unfold A9E;have:L9 k<256:=by unfold L9;omega
   rw [if_pos ⟨by omega,by omega⟩,E6c,E53 (by rw [hEl];unfold L9;omega)];rfl
  rw [elay] at hLy;have hq2:quiet (h++[rT (X1 (A4 (gC l k)))]) (A4 (.c (.sl (h.length+1) 0 32 1),h++[rT (X1 (A4 (gC l k))),rT (B4 (Z1 (gC l k).1 (gC l k).2))]))=_:=E3h;have hrk:∀ t:B5,rd (h++t) B.length=rT (B4 (jX l k)):=λt=>C5 hr
  have s1:=λt=>C7 (h:=h++t) (hrk t) hL
  have hN1:(B4 (jX l (k+1))).length=256:=by rw [A9];exact gW (k+1) (by omega)
  have s2:=λt=>storeAll (h:=h++t) (xs:=B4 (jX l (k+1))) (hrk t) hL hN1
  obtain ⟨h',ih⟩:=D9z (q:=q) hv hn h7 hs hg hq e (k+1) m ((h++[rT (X1 (A4 (gC l k))),rT (B4 (Z1 (gC l k).1 (gC l k).2))]).set B.length (rT (B4 (jX l (k+1))))) (by omega) (by omega) ((hlow.new _).set (E5V _) _) (C6 (C8 (hrk _)));rw [A5W,hmd];generalize Z1 (gC l k).1 (gC l k).2=E at *;simp only [X1] at *;cases cm:A2W (gC l k).1 (gC l k).2 with
  | true =>
   rw [cm] at hM;rw [E55];refine ⟨h',?_⟩;generalize B4 (jX l (k+1))=y1 at *;generalize B4 (jX l k)=y at *;simp only [esc,esh,Nat.reduceAdd,c0,eb,hld,hM,hF,hW,hq2,s1,hLy,s2,w1];exact ih
  | false =>
   rw [cm] at hM;rw [E51,E51,cond_false,cond_false];have hz:(B4 (zeros 256)).length=256:=by rw [A9];exact zeros_length
   have hrg:=λt:B5=>C5 (g:=t) (hlow.rd hg)
   have haf:E6 (E5R 256 (Cell.i .u8 0)) []=A4 (E5R 256 (Cell.i .u8 0)):=rfl;rw [I9] at haf;have s2:=λt=>storeAll (xs:=B4 (zeros 256)) (hrg t) hz hz
   have s3:=λt=>C7 (h:=(h++t).set g (rT (B4 (zeros 256)))) (id:=g) (C6 (C8 (hrg t))) hz
   rw [I9];generalize zeros 256=z at *;exact ⟨_,by simp only [esc,esh,Nat.reduceAdd,c0,eb,hld,hM,haf,s2,s3]<;>rfl⟩
def D3Y (l:List Ent):Int:=if 7<l.length then 11 else if C9r l=A5 then (if B8P l=A5 then 0 else 5) else 1
def bU (l:List Ent):List UInt8:=if D3Y l=0 then jX l l.length else zeros 256
def rX {l:List Ent}:(bU l).length=256:=by
 unfold bU;split
 ·rename_i h;refine gW _ ?_
  false_or_by_contra
  unfold D3Y at h;rw [if_pos (by omega)] at h;omega
 ·exact zeros_length
def C8Z {v:Val} {nv:Nat} {l:List Ent} {h:B5} (hv:Has h v 2 nv (W3 l)) (hs:∀ x∈l,x.1.length<=60):A7t [v] h=A4 (.t [.a (B4 (bU l)),.c (.i .i64 (D3Y l))],h):=by
 have hn:l.length=nv:=by have:=hv.length;rw [A78] at this;omega
 have key:∀ g,Has g v 2 nv (W3 l)->∃ g',A69 8 [v] g=A4 (.t [.a (B4 (bU l)),.c (.i .i64 (D3Y l))],g'):=by
  intro g hv;have hz:(B4 (zeros 256)).length=256:=by rw [A9];exact zeros_length
  have hd:(B4 hdB).length=256:=by rw [A9];exact A8i
  have hl:=hv.len;have hH:=λh=>C6q (h:=h)
  rw [C2R,I9];by_cases c:7<nv
  ·have c0:(7:Int)<nv:=by omega
   have e1:D3Y l=11:=by unfold D3Y;rw [if_pos (by omega)]
   have e2:bU l=zeros 256:=by unfold bU;rw [e1,if_neg (by omega)]
   have haf:E6 (E5R 256 (Cell.i .u8 0)) []=A4 (E5R 256 (Cell.i .u8 0)):=rfl;rw [I9] at haf;rw [e1,e2];generalize zeros 256=z at *;exact ⟨_,by simp only [esc,esh,hl,c0,haf,hz]<;>rfl⟩
  ·have c0:¬ (7:Int)<nv:=by omega
   obtain ⟨h',e⟩:=D9z (q:=8) (B:=g++[rT (B4 (zeros 256))]) (g:=g.length) (hv.more _) hn (by omega) hs (by simp) (by omega) nv 0 8 (g++[rT (B4 (zeros 256)),rT (B4 (jX l 0))]) (by omega) (by omega)
    (by have:=(Low.refl (h:=g++[rT (B4 (zeros 256))]) (E5V _)).new [rT (B4 (jX l 0))];simpa using this) (by simp)
   have e1:D3Y l=(bif C9r l then (bif B8P l then 0 else 5) else 1):=by
    unfold D3Y;rw [if_neg (by omega)];cases C9r l<;>cases B8P l<;>simp
   have e2:bU l=(bif C9r l&&B8P l then jX l nv else zeros 256):=by
    unfold bU;rw [e1,<-hn];cases C9r l<;>cases B8P l<;>simp
   rw [E6a,<-e1,<-e2] at e;rw [show jX l 0=hdB from rfl] at e;simp only [E5T,E52,E6h,E6e] at e;refine ⟨h',?_⟩;generalize bU l=R at *;generalize hdB=H at *;generalize zeros 256=z at *;simp only [esc,esh,hl,c0,hH,hz,hd];exact e
 obtain ⟨g',e⟩:=key (ro h) hv.ro;exact B7d e (by simp)
def MapN (es:Y0) (f:List UInt8->Int) (l:W8):Prop:=(∀ e∈es,∃ s,e.1=.s s)/\∀ s∈l,∃ i,B2c (.s s) es=A4 (i,.c (.i .i64 (f s)))
def D6m {es:Y0} {s:List UInt8} (h:∀ e∈es,∃ s,e.1=Cell.s s):A5n A7 (.s s) es=A5:=by
 simp only [A5n,vQ,E55,E6M];intro e he;obtain ⟨x,hx⟩:=h e he;rw [hx]
def D6s {k:Cell} {p:Part}:∀ {es:Y0} {i j:Nat} {q:Part},mgo k es i=A4 (j,q)->(es.set (j-i) (k,p)).length=es.length/\mgo k (es.set (j-i) (k,p)) i=A4 (j,p)/\i<=j/\∀ k'≠k,((mgo k' (es.set (j-i) (k,p)) i)=mgo k' es i)
 | [],i,j,q,h=>by simp [mgo] at h
 | e::es,i,j,q,h=>by
  unfold mgo at h;by_cases c:e.1=k
  ·rw [if_pos c] at h;cases h;simp only [E6D,E6G];refine ⟨rfl,by simp [mgo],E5V _,λk' hk'=>?_⟩;have:¬ e.1=k':=λh=>hk' (by rw [<-h,c])
   simp [mgo,this,Ne.symm hk']
  ·rw [if_neg c] at h;obtain ⟨h1,h2,h3,h4⟩:=D6s (p:=p) h;have e1:j-i=(j-(i+1))+1:=by omega
   rw [e1,E6H];refine ⟨by simp,?_,by omega,λk' hk'=>?_⟩
   ·simp only [mgo];rw [if_neg c];exact h2
   ·simp only [mgo];rw [h4 k' hk']
def D3V {k k':Cell} {p:Part}:∀ {es:Y0} {i:Nat},mgo k es i=A7->mgo k' (es++[(k,p)]) i=if k'=k then A4 (i+es.length,p) else mgo k' es i
 | [],i,_=>by
  by_cases c:k'=k
  ·subst c;simp [mgo]
  ·simp [mgo,c,Ne.symm c]
 | e::es,i,h=>by
  unfold mgo at h;by_cases c:e.1=k
  ·rw [if_pos c] at h;cases h
  ·rw [if_neg c] at h;have ih:=D3V (k':=k') (p:=p) h;simp only [E6q,mgo,ih];by_cases c2:k'=k
   ·subst c2;rw [if_neg c,if_pos rfl,if_pos rfl,E52]
    congr 2;omega
   ·simp only [if_neg c2]
def A1J {k k':Cell} {p:Part} {es:Y0}:B2c k (A9G k p es)=A4 (((B2c k es).map (·.1)).getD es.length,p)/\(k'≠k->B2c k' (A9G k p es)=B2c k' es):=by
 unfold A9G B2c;cases c:mgo k es 0 with
 | none =>
  simp only [D3V c];exact ⟨by simp,λh=>by rw [if_neg h]⟩
 | some jq =>
  obtain ⟨j,q⟩:=jq;obtain ⟨_,h2,_,h4⟩:=D6s (p:=p) c;simp only [Nat.sub_zero] at h2 h4;exact ⟨by simp [h2],λh=>h4 k' h⟩
def C01 {k:Cell} {p:Part} {es:Y0} {Q:Cell->Prop} (hk:Q k) (h:∀ e∈es,Q e.1):∀ e∈A9G k p es,Q e.1:=by
 intro e he;unfold A9G at he;split at he
 ·rcases E6A he with he | rfl
  ·exact h e he
  ·exact hk
 ·rcases List.mem_append.1 he with he | he
  ·exact h e he
  ·simp at he;subst he;exact hk
def MapN.nil (f:List UInt8->Int):MapN [] f []:=⟨λe he=>by simp at he,λs hs=>by simp at hs⟩
def MapN.put {es:Y0} {f:List UInt8->Int} {l:W8} (hm:MapN es f l) (s:List UInt8):MapN (A9G (.s s) (.c (.i .i64 (f s))) es) f (l++[s]):=by
 refine ⟨C01 (Q:=λc=>∃ s,c=.s s) ⟨s,rfl⟩ hm.1,λx hx=>?_⟩;by_cases c:x=s
 ·subst c;exact ⟨_,(A1J (k':=.mh)).1⟩
 ·rcases List.mem_append.1 hx with hx | hx
  ·obtain ⟨i,hi⟩:=hm.2 x hx;refine ⟨i,?_⟩;rw [(A1J (k:=.s s) (k':=.s x)).2 (by simpa using c)];exact hi
  ·simp at hx;exact absurd hx c
def D9s {h:B5} {mid:Nat} {es:Y0} {f:List UInt8->Int} {l:W8} {s:List UInt8} (hr:rd h mid=A4 (T8 es)) (hm:MapN es f l) (hs:s∈l):A8T h A7 (.c o0) A6 (.c (.m mid)) (.c (.s s))=A4 (.c (.i .i64 (f s))):=by
 obtain ⟨i,hi⟩:=hm.2 s hs;simp only [A8T,C7l,D7w,hr,E54,A1I];rw [if_pos (D6m hm.1),hi];rfl
def E1g {h:B5} {mid:Nat} {es:Y0} {f:List UInt8->Int} {l:W8} {s:List UInt8} {x:Int} (hr:rd h mid=A4 (T8 es)) (hm:MapN es f l):A3O h A7 (.c (.m mid)) (.c (.s s)) (.c (.i .i64 x))=A4 (h.set mid (A4 (T8 (A9G (.s s) (.c (.i .i64 x)) es)))):=by
 simp only [A3O,C7l,C7R,hr,E54,A1I];rw [if_pos (D6m hm.1)]
def A1M {b:List UInt8} {k:Nat} {x:Ent} (h:S7 b k=A4 x):x.1.length<=24:=by
 unfold S7 at h;cases hu:dV (nameB b k) with
 | none=>rw [hu] at h;cases h
 | some s =>
  rw [hu,E54] at h;split at h
  ·cases h;exact (dE (A8E hu)).2
  ·cases h
def A8p {b:List UInt8}:∀ {e k:Nat} {x:Slt},x∈N9 b e k->S7 b x.1=A4 x.2/\k<=x.1/\x.1<k+e
 | 0,k,x,h=>by simp [N9] at h
 | e+1,k,x,h=>by
  cases hr:S7 b k with
  | none =>
   rw [zB hr] at h;have:=A8p h;exact ⟨this.1,by omega,by omega⟩
  | some y =>
   rw [zC hr] at h;rcases List.mem_cons.1 h with rfl | h
   ·exact ⟨hr,E5V _,by dsimp only;omega⟩
   ·have:=A8p h;exact ⟨this.1,by omega,by omega⟩
def B22 {b:List UInt8} {x:Slt} (h:x∈O6 b):S7 b x.1=A4 x.2/\x.1<7:=by
 have:=A8p h;exact ⟨this.1,by omega⟩
section
variable {D:Dev} {n k:Int} {d:List Int} {V I:List Cell} {L:List Int} {g h:B5} {rs:List Nat} {c:Nat} {s:List Tld}
end
def D2Z {n:Nat} {t:List Int} {p b:Nat}:C3V n t p b=A5↔toX t p≠0/\∀ k,k<n->k%2 ^ b=p%2 ^ b->toX t k=toX t p:=by
 unfold C3V A8F X4;simp only [E5S,E6I,decide_eq_false_iff_not,E6M,List.mem_filter,List.mem_range,beq_iff_eq,decide_eq_true_eq];constructor
 ·rintro ⟨h1,h2⟩;exact ⟨h1,λk hk hm=>h2 k ⟨hk,hm⟩⟩
 ·rintro ⟨h1,h2⟩;exact ⟨h1,λk hk=>h2 k hk.1 hk.2⟩
def yU {n:Nat} {t:List Int} {p:Nat}:∀ e b,b<=bZ n t p b e/\bZ n t p b e<=b+e/\(∀ c,b<=c->c<bZ n t p b e->C3V n t p c=A6)/\(bZ n t p b e<b+e->C3V n t p (bZ n t p b e)=A5)
 | 0,b=>⟨E5V _,E5V _,λc h1 h2=>by unfold bZ at h2;omega,λh=>by unfold bZ at h;omega⟩
 | e+1,b=>by
  unfold bZ;cases ca:C3V n t p b with
  | true=>exact ⟨E5V _,by rw [cond_true];omega,λc h1 h2=>by rw [cond_true] at h2;omega,λ_=>by rw [cond_true];exact ca⟩
  | false =>
   obtain ⟨h1,h2,h3,h4⟩:=yU (n:=n) (t:=t) (p:=p) e (b+1);rw [cond_false];refine ⟨by omega,by omega,λc k1 k2=>?_,λk=>h4 (by omega)⟩;by_cases e1:c=b
   ·subst e1;exact ca
   ·exact h3 c (by omega) k2
def C6l {d:Int} {t:List Int} {p:Nat}:cO d t p<=W9 d:=by
 have:=(yU (n:=D1 d) (t:=t) (p:=p) (W9 d) 0).2.1;unfold cO;omega
def D3e {d:Int} {t:List Int} {p c:Nat} (h:c<cO d t p):C3V (D1 d) t p c=A6:=(yU (n:=D1 d) (t:=t) (p:=p) (W9 d) 0).2.2.1 c (Nat.zero_le _) h
def D60 {d:Int} {t:List Int} {p:Nat} (h:cO d t p<W9 d):C3V (D1 d) t p (cO d t p)=A5:=(yU (n:=D1 d) (t:=t) (p:=p) (W9 d) 0).2.2.2 (by unfold cO at h;omega)
def C6E {d:Int} {t:List Int} {p k:Nat} (hp:p<D1 d) (hk:k<D1 d) (hm:k%2 ^ cO d t p=p%2 ^ cO d t p):toX t k=toX t p:=by
 by_cases c:cO d t p<W9 d
 ·exact (D2Z.1 (D60 c)).2 k hk hm
 ·have e:cO d t p=W9 d:=by have:=C6l (d:=d) (t:=t) (p:=p);omega
  rw [e] at hm;unfold D1 at hp hk;rw [E6K hp,E6K hk] at hm;rw [hm]
def D5l {a b c x:Nat} (h:c<=x) (hm:a%2 ^ x=b%2 ^ x):a%2 ^ c=b%2 ^ c:=by
 have hd:2 ^ c ∣ 2 ^ x:=Nat.pow_dvd_pow 2 h;rw [<-Nat.mod_mod_of_dvd a hd,<-Nat.mod_mod_of_dvd b hd,hm]
def D6f {α:Type} {p r:α -> Bool}:∀ {l:List α},(∀ x∈l,p x=A5->r x=A5)->(l.filter p).length<=(l.filter r).length
 | [],_=>by simp
 | y::l,h=>by
  have h1:=D6f (l:=l) λx hx=>h x (E6f _ hx)
  have h2:=h y (E6g ..);simp only [List.filter_cons];cases hy:p y with
  | true=>rw [h2 hy];simpa using h1
  | false=>cases r y<;>simp<;>omega
def D6e {α:Type} {p r:α -> Bool}:∀ {l:List α},(∀ x∈l,p x=A5->r x=A5)->(l.filter p).length=(l.filter r).length->∀ x∈l,r x=p x
 | [],_,_,x,hx=>by cases hx
 | y::l,h,he,x,hx=>by
  have h':∀ x∈l,p x=A5->r x=A5:=λx hx=>h x (E6f _ hx)
  have h1:=D6f h';have h2:=h y (E6g ..);simp only [List.filter_cons] at he;have key:r y=p y/\(l.filter p).length=(l.filter r).length:=by
   cases hy:p y with
   | true =>
    rw [h2 hy];rw [hy,h2 hy] at he;exact ⟨rfl,by simpa using he⟩
   | false =>
    rw [hy] at he;cases hr:r y with
    | true=>rw [hr] at he;simp at he;omega
    | false=>rw [hr] at he;exact ⟨rfl,by simpa using he⟩
  rcases List.mem_cons.1 hx with e | hx
  ·subst e;exact key.1
  ·exact D6e h' key.2 x hx
def D1b {d:Int} {t:List Int} {p:Nat} (hp:p<D1 d):A4h d t p=A5↔∀ k,k<D1 d->toX t k=toX t p->k%2 ^ cO d t p=p%2 ^ cO d t p:=by
 unfold A4h;rw [decide_eq_true_eq];unfold X4 uE;constructor
 ·intro he k hk hs;have:=D6e (p:=λk=>k%2 ^ cO d t p==p%2 ^ cO d t p) (r:=λk=>decide (toX t k=toX t p)) (l:=E6p (D1 d)) (λx hx h=>by
   rw [decide_eq_true_eq];exact C6E hp (List.mem_range.1 hx) (by simpa using h)) he k (List.mem_range.2 hk)
  rw [decide_eq_true hs] at this;simpa using this.symm
 ·intro h
  congr 1
  refine List.filter_congr λk hk=>?_
  have hk:=List.mem_range.1 hk;rw [Bool.eq_iff_iff,decide_eq_true_eq,beq_iff_eq];exact ⟨λhm=>C6E hp hk hm,λhs=>h k hk hs⟩
def B6b {t:List Int} {i:Nat}:pD t i=A5↔∀ k,k<i->toX t k≠toX t i:=by
 unfold pD;simp only [E6M,List.mem_range,E6I,decide_eq_false_iff_not]
def D7p {d:Int} {t:List Int} {i:Nat}:A38 d t i=A5↔toX t i≠0/\xQ (toX t i)=A5/\(pD t i=A5\/A4h d t i=A5):=by
 unfold A38;simp only [E5S,E6I,decide_eq_false_iff_not,E6S]
section
variable (n m m2:Nat) (a0 a1 x0 x1 x5:Val) (h:B5)
def A1w:FD A8:=⟨px 0X13401021bf5050021a1a0318011b4013a00001722404223e1040411d28171c064b4215313070240612029710142b4203006051111b611c20023340130182,[],[],[.tmp 4],[]⟩
def C9V:=A1w.R
def C6R:AtH:=A1w.lj 0 n [m] [x0,x1,x5]
def C92:=tT [⟨2,3,C6R⟩]
def D1h:=mR C9V A1w C92 n [a0,a1] h
def B35:=mL A1w C92 0 n [m] [x0,x1,x5] h
def B9g:=A1w.K Tryz.func19
def B2O:=A1w.S
def B7m:SOk A8 19 B2O:=B9g.sok
def C5v:F6 C9V B2O:=B9g.flat
end
section
variable (n m m2:Nat) (a0 a1 a2 x0 x1 x2 x3 x4 x5 x6 x7 x8 x9 x10:Val) (h:B5)
def A24:FD A8:=⟨px 0X118f20306197ffffd0191b1a71b701104261700523201042,[],[],[.tmp 2],[]⟩
def C1H:=A24.R
def C4Y:=mR C1H A24 (tT []) n [a0] h
def A9M:=A24.K Tryz.func179
def A3z:=A24.S
def B95:F6 C1H A3z:=A9M.flat
def wD:FD A8:=⟨px 0X11b15bf200143234f12889288917597e5023af5050025839031858f4001e13901921305804401482d11f57a17a490191801311248275000011b22403f010304401482d16e55c3b06189420315313070242890124c2f02694203006051111b61820132ef400384a2d03022cf4001a13901017113e0690403e50785b134b123b112b10419411e5d18194001a201311248275001a22401b18192d052a1a02a1e02a2a1f0110120401a62b183b42033114a03a3342,[.c (.i .u8 105),.c (.i .u8 100),.c (.i .u8 120),.c (.i .u8 33)],[.appZ 1 ([.i .u8 0]) (.t 21) (.v (.c (.i .i64 27)))],[.tmp 2,.tmp 3],[E3 A3z A9M,E3 dK nY,E3 lZ pX]⟩
def B44:=wD.R
def C2w:AtH:=wD.lj 0 n [m] [x1,x4,x5]
def C55:=tT [⟨2,3,C2w⟩]
def C8G:=mR B44 wD C55 n [a0] h
def B1K:=mL wD C55 0 n [m] [x1,x4,x5] h
def B4L:=wD.K Tryz.func177
def A7K:=wD.S
def C8S:SOk A8 177 A7K:=B4L.sok
def C3J:E1V B44 A7K:=B4L.out2
def wC:FD A8:=⟨px 0X11cf202a1c02400007219f405002181803181bf30190621e1a031815313070240412710131f4203006051111961820135117421201042,[],[],[.tmp 2],[]⟩
def C4Z:=wC.R
def C2v:AtH:=wC.lj 0 n [m] [x0,x3,x4]
def C54:=tT [⟨2,3,C2v⟩]
def C8F:=mR C4Z wC C54 n [a0] h
def B1J:=mL wC C54 0 n [m] [x0,x3,x4] h
def wJ:=wC.K Tryz.func178
def mA:=wC.S
def C3I:F6 C4Z mA:=wJ.flat
def kZ:FD A8:=⟨px 0X11b3022f4964f496b1c3025cf180500218e5b03180133022f49601f3b3711107224103204401482d14f519a5d051cb42353132702428901218a59021ad42030162558f18001330404f4e2b42942191530133022f49601f3b3711622401b1a1907e4d04227e2f77e76c7e70103f5c3d018199422200333cf13bf6011828063b2c3af38001135a49391c71f1d31921ff5050022a1e0318422a1e01482d14c519018303028902019623a1712e280191815413070242890121e1c023b4203006051111b42031bf24961f41b01011f3b5290303719051942311f21b250182,[],[],[.cellN 2 33,.tmp 3],[E3 oC A1B,E3 A7K B4L,E3 gO lA,E3 mA wJ]⟩
def B43:=kZ.R
def C2t:AtH:=kZ.lj 0 n [m] [x0,x2,x4,x5]
def C2u:AtH:=kZ.lj 1 n [m] [x2,x4,x8]
def B5O:=tT [⟨2,4,C2t⟩,⟨2,3,C2u⟩]
def C8E:=mR B43 kZ B5O n [a0] h
def B1H:=mL kZ B5O 0 n [m] [x0,x2,x4,x5] h
def B1I:=mL kZ B5O 1 n [m] [x2,x4,x8] h
def C4A:=kZ.K Tryz.func114
def B5t:=kZ.S
def C8R:SOk A8 114 B5t:=C4A.sok
def C3H:F6 B43 B5t:=C4A.flat
def A23:FD A8:=⟨px 0X11af2004028192b302012d20150062242d0520401a62b329422053011201600622410120404531b42031103a2342,[],[],[.tmp 2],[]⟩
def B0c:=A23.R
def C4X:=mR B0c A23 (tT []) n [a0] h
def A9L:=A23.K Tryz.func181
def A3y:=A23.S
def B94:F6 B0c A3y:=A9L.flat
def B2G:FD A8:=⟨px 0X11ff6001a2220618201032c12c10618201031c17118019000007336015301c2,[],[],[.tmp 6],[E3 mA wJ]⟩
def B9u:=B2G.R
def D1k:=mR B9u B2G (tT []) n [a0,a1,a2] h
def C9O:=B2G.K Tryz.func222
def B96:=B2G.S
def C5F:F6 B9u B96:=C9O.flat
def U0:FD A8:=⟨px 0X1311402024ef18050027a4d0318011b17df401da131b190000021b2241ce7c011f944625df1a0500218c5c03187bf19030381901bf4e3046321bf2f1c81bf76f1bf71b81bf70421bf1a1f1bf701bf1e401481bf6a12f1bf1f19c1bf70119a5e01c019556134702401812011301032f49187a4f051af4203036451112d42031b19016e4235413270243061910418b1a7818b7010619201037849185a3d018199420302625111292532820000023329f7050022a28031803cf605a12182430619101691a4e6970104225a104401482d14a52e2a01a6f42154111a0702401812011301032c4918181b053f4203006051111f42032b111d4231140422e353182,[.c (.i .i64 (-1))],[.eqB A6 (.t 53) (.t 57)],[.tmp 4,.tmp 5],[E3 A3y A9L,E3 mA wJ,E3 B96 C9O]⟩
def B6Z:=U0.R
def B37:AtH:=U0.lj 0 n [m] [x1,x2,x6,x7]
def C89:AtH:=U0.lj 1 n [m] [x1,x2,x6,x7]
def A5a:AtH:=U0.lj 2 n [m] [x1,x2,x6,x8]
def B38:AtH:=U0.lj 3 n [m,m2] [x1,x2,x6,x8,x9,x10]
def tU:=tT [⟨2,4,B37⟩,⟨2,4,C89⟩,⟨2,4,A5a⟩,⟨3,6,B38⟩]
def C25:=mR B6Z U0 tU n [a0,a1] h
def A6d:=mL U0 tU 0 n [m] [x1,x2,x6,x7] h
def xI:=mJ U0 tU 1 n [m] [x1,x2,x6,x7] h
def A6e:=mL U0 tU 2 n [m] [x1,x2,x6,x8] h
def A6f:=mL U0 tU 3 n [m,m2] [x1,x2,x6,x8,x9,x10] h
def B6L:=U0.K Tryz.func180
def A7J:=U0.S
def B7p:F6 B6Z A7J:=B6L.flat
def dW:FD A8:=⟨px 0X122f4963f4919f1c211101323cf4050025e3b03180422a1c01482d13f504401482d11f54f14f118182401b4197f29a7016f18c0429f4440726ff18050021bc6e031818bf70302c1901a31eb1a301eb1e401481eb6a11f1eb1f4f1eb701eb1e401481eb6a11f1eb1f1cc1eb7017f7801a019357132702404124f11ae6b031db4203026251112942031b111f426af1169f501282801e692c68f5a001a22304401482d11f54f11f495b1c1a0191d4530172401b1e19018c4d01118c2f018c1e4014818c6a11f18c1f7e18c701102204401482d17a56a3d01d1ab4203154111a070240181201030405c54c2e056d42030060514014a3182013022a04c50404c5473182012484963e491821100322401b18192d053a1a03a1e03a3a1f0110120402a1a2b184b420319f24961f31b01f1918e37421f4c03a253182,[],[],[.cellN 2 33],[E3 mA wJ,E3 A3z A9M,E3 A7J B6L]⟩
def B42:=dW.R
def A3Z:AtH:=dW.lj 0 n [m] [x1,x2,x3,x4]
def D3B:AtH:=dW.lj 1 n [m] [x1,x2,x3,x4]
def A30:AtH:=dW.lj 2 n [m,m2] [x1,x2,x3,x4,x6,x7,x8]
def A7W:=tT [⟨2,4,A3Z⟩,⟨2,4,D3B⟩,⟨3,7,A30⟩]
def C8D:=mR B42 dW A7W n [a0] h
def B1G:=mL dW A7W 0 n [m] [x1,x2,x3,x4] h
def mT:=mJ dW A7W 1 n [m] [x1,x2,x3,x4] h
def mU:=mL dW A7W 2 n [m,m2] [x1,x2,x3,x4,x6,x7,x8] h
def C4z:=dW.K Tryz.func115
def B5s:=dW.S
def C8Q:SOk A8 115 B5s:=C4z.sok
def C3G:F6 B42 B5s:=C4z.flat
def Y4:FD A8:=⟨px 0X149f207c4902400001721bf4050021c1a0318048f3001c13901011113e04401482d16e55e15e118182430281904b4d01a224b2f04b1e401484b6a14e4b1f3e4b73e4b701103204401482d1385281c01e6b42153111a0702401812011301031a49180152b42030060511119418201314a174214a03a2342,[],[],[.tmp 2],[E3 A3y A9L,E3 mA wJ,cal B7m]⟩
def A1V:=Y4.R
def A0x:AtH:=Y4.lj 0 n [m] [x1,x3,x4]
def C32:AtH:=Y4.lj 1 n [m] [x1,x3,x4]
def A2h:=tT [⟨2,3,A0x⟩,⟨2,3,C32⟩]
def B6Y:=mR A1V Y4 A2h n [a0] h
def A2t:=mL Y4 A2h 0 n [m] [x1,x3,x4] h
def qN:=mJ Y4 A2h 1 n [m] [x1,x3,x4] h
def A9K:=Y4.K Tryz.func116
def A19:=Y4.S
def A3x:SOk A8 116 A19:=A9K.sok
def B5r:pY A1V A19:=A9K.out
end
def bN {d:Int} {t:List Int} {h:B5}:A3y [.a (encI (d::t))] h=A4 (iV (W9 d:Nat),h):=by
 have key:∀ g,∃ g',B0c 0 [.a (encI (d::t))] g=A4 (iV (W9 d:Nat),g'):=by
  intro g;have l0:(encI (d::t))[0]?=A4 (.i .i64 d):=rfl;rw [C4X];generalize encI (d::t)=y at *;by_cases c1:d<0
  ·have e:((W9 d:Nat):Int)=0:=by unfold W9;omega
   rw [e];exact ⟨_,by simp only [esc,esh,l0,c1]<;>rfl⟩
  ·by_cases c2:5<d
   ·have e:((W9 d:Nat):Int)=5:=by unfold W9;omega
    rw [e];exact ⟨_,by simp only [esc,esh,l0,c1,c2]<;>rfl⟩
   ·rw [B2U (by omega) (by omega)];exact ⟨_,by simp only [esc,esh,l0,c1,c2]<;>rfl⟩
 obtain ⟨g',e⟩:=key (ro h);exact B94 e rfl
def D4a {k q:Nat} {h:B5} (hk:k<=32):∀ e i m:Nat,i+e=k->e<m->C2v q m (iV (k:Int)) (iV ((2 ^ i:Nat):Int)) (iV (i:Int)) h=A4 (iV ((2 ^ k:Nat):Int),h)
 | e,i,0,_,hm=>by omega
 | 0,i,m+1,hi,hm=>by
  have e0:i=k:=by omega
  subst e0;have c0:¬ (i:Int)<i:=by omega
  rw [B1J];simp only [esc,c0]
 | e+1,i,m+1,hi,hm=>by
  have ih:=D4a (q:=q) (h:=h) hk e (i+1) m (by omega) (by omega);have c0:(i:Int)<k:=by omega
  have hp:2 ^ i<=2 ^ 32:=Nat.pow_le_pow_right (by omega) (by omega);have w1:E5U .i64 (((2 ^ i:Nat):Int)*2)=((2 ^ (i+1):Nat):Int):=by
   rw [Nat.pow_succ];generalize 2 ^ i=y at hp ⊢;rw [wrap_i64 (by omega) (by omega)];omega
  rw [B1J];generalize ((2 ^ (i+1):Nat):Int)=y1 at *;generalize ((2 ^ i:Nat):Int)=y at *;simp only [esc,c0,w1,D3 (show i+1<9223372036854775808 by omega)];exact ih
def A8v {k:Nat} {h:B5} (hk:k<=32):mA [iV (k:Int)] h=A4 (iV ((2 ^ k:Nat):Int),h):=by
 have e:=D4a (q:=k+1) (h:=ro h) hk k 0 (k+1) (by omega) (by omega);exact C3I (n:=k+1) (h2:=ro h) (by rw [C8F];exact e) rfl
def bO {d:Int} {h:B5}:mA [iV (W9 d:Nat)] h=A4 (iV (D1 d:Nat),h):=A8v (by have:=uF d;omega)
def D4h {i p b:Nat} {h:B5} (hb:b<=32):B96 [iV (i:Int),iV (p:Int),iV (b:Int)] h=A4 (bV (i%2 ^ b==p%2 ^ b),h):=by
 have key:∀ g,∃ g',B9u 0 [iV (i:Int),iV (p:Int),iV (b:Int)] g=A4 (bV (i%2 ^ b==p%2 ^ b),g'):=by
  intro g;have hP:=λh=>A8v (k:=b) (h:=h) hb
  have hp0:0<2 ^ b:=Nat.pow_pos (by omega);rw [D1k];generalize 2 ^ b=s at *;have e1:N4 .rem (iV (i:Int)) (iV (s:Int))=A4 (iV ((i%s:Nat):Int)):=by rw [A2G (by omega) (by omega)];simp
  have e2:N4 .rem (iV (p:Int)) (iV (s:Int))=A4 (iV ((p%s:Nat):Int)):=by rw [A2G (by omega) (by omega)];simp
  have e3:decide (((i%s:Nat):Int)=((p%s:Nat):Int))=(i%s==p%s):=by
   rw [Bool.eq_iff_iff,decide_eq_true_eq,beq_iff_eq];omega
  generalize i%s=x at *;generalize p%s=y at *;exact ⟨_,by simp only [esc,hP,e1,e2,e3]<;>rfl⟩
 obtain ⟨g',e⟩:=key (ro h);exact C5F e rfl
def D6k {v:Val} {nv q:Nat} {l:List Int} {x:Int} {h:B5} (hv:Has h v 1 nv (encI l)) (hn:l.length=nv) (h62:nv<9223372036854775808):∀ e i m:Nat,i+e=nv->e<m ->
  C6R q m v (iV x) (iV (i:Int)) h=A4 (bV (decide (x∈l.drop i)),h)
 | e,i,0,_,hm=>by omega
 | 0,i,m+1,hi,hm=>by
  have e0:i=nv:=by omega
  subst e0;have c0:¬ (i:Int)<i:=by omega
  rw [B35,E56 (by omega)];simp only [esc,hv.len,c0,List.not_mem_nil]
 | e+1,i,m+1,hi,hm=>by
  have ih:=D6k (q:=q) (x:=x) hv hn h62 e (i+1) m (by omega) (by omega);have hlen:=hv.len;have c0:(i:Int)<nv:=by omega
  obtain ⟨id,off,ev,hid,k1,k2⟩:=hv.sl (by omega);have hx:=k1 i (.i .i64 l[i]) (by rw [I1,E5P (by omega)];rfl);have eb:D9 1 v (iV (i:Int))=A4 (pV id (off+i)):=by rw [ev,C9 (by omega)];simp
  rw [B35,E5X (by omega:i<l.length)];by_cases c:l[i]=x
  ·have:decide (x∈l[i]::l.drop (i+1))=A5:=decide_eq_true (by rw [c];exact E6g ..);rw [this];simp only [esc,hlen,c0,eb,hx,c]
  ·have:decide (x∈l[i]::l.drop (i+1))=decide (x∈l.drop (i+1)):=by
    refine decide_eq_decide.2 ?_;rw [List.mem_cons];exact ⟨λh=>by rcases h with h | h;exact absurd h.symm c;exact h,λh=>.inr h⟩
   rw [this];simp only [esc,hlen,c0,eb,hx,c,D3 (show i+1<9223372036854775808 by omega)];exact ih
def B2q {v:Val} {nv:Nat} {l:List Int} {x:Int} {h:B5} (hv:Has h v 1 nv (encI l)) (h62:nv<9223372036854775808):B2O [v,iV x] h=A4 (bV (decide (x∈l)),h):=by
 have hn:l.length=nv:=by simpa [B7] using hv.length
 have e:=D6k (q:=nv+1) (x:=x) hv.ro hn h62 nv 0 (nv+1) (by omega) (by omega);exact C5v (n:=nv+1) (h2:=ro h) (by rw [D1h];exact e) rfl
def C7s {t:List Int} {x:Int} (hx:x≠0):∀ k,x∈M7 t k↔∃ j,j<k/\toX t j=x
 | 0=>by simp [M7]
 | k+1=>by
  rw [A1D,List.mem_append,C7s hx k];constructor
  ·rintro (⟨j,h1,h2⟩ | h)
   ·exact ⟨j,by omega,h2⟩
   ·split at h
    ·simp at h;exact ⟨k,by omega,h.symm⟩
    ·cases h
  ·rintro ⟨j,h1,h2⟩;by_cases c:∃ j,j<k/\toX t j=x
   ·exact .inl c
   ·right
    have:j=k:=by
     by_cases e:j=k
     ·exact e
     ·exact absurd ⟨j,by omega,h2⟩ c
    subst this;have hb:zT t j=A5:=by
     unfold zT;rw [E5S];refine ⟨by rw [h2];simp [hx],?_⟩;rw [B6b];intro k hk he;exact c ⟨k,hk,he.trans h2⟩
    rw [if_pos hb,h2];simp
def E00 {t:List Int} {i:Nat} (h:toX t i≠0):decide (toX t i∈M7 t i) = !pD t i:=by
 cases c:pD t i with
 | true =>
  rw [E6V,decide_eq_false];rw [C7s h];rintro ⟨j,h1,h2⟩;exact B6b.1 c j h1 h2
 | false =>
  rw [E6Q,decide_eq_true];rw [C7s h]
  false_or_by_contra
  rename_i hn;have:pD t i=A5:=B6b.2 λk hk he=>hn ⟨k,hk,he⟩
  rw [c] at this;cases this
def A5t {d:Int} {t:List Int} {g:B5} {q:Nat} (ht:t.length=32):∀ (e i m:Nat) (h:B5) (id:Nat),i+e=D1 d->e<m->Low (g++[rT (encI (d::t))]).length (g++[rT (encI (d::t))]) h->(g++[rT (encI (d::t))]).length<=id->rd h id=rT (encI (M7 t i)) ->
  ∃ v h',A0x q m (pV g.length 0) (sV id 0 (M7 t i).length 1) (iV (i:Int)) h=A4 (v,h')/\Out g.length h' v 1 (M7 t (D1 d)).length (encI (M7 t (D1 d)))
 | e,i,0,h,id,_,hm,_,_,_=>by omega
 | 0,i,m+1,h,id,hi,hm,hlow,hid,hr=>by
  have e0:i=D1 d:=by omega
  subst e0;have c0:¬ ((D1 d:Nat):Int)<(D1 d:Nat):=by omega
  have hB:=E4 (d:=d) ht;have s1:=C7 (h:=h) (id:=g.length) (cs:=encI (d::t)) (hlow.rd (by simp)) hB;have hD:=λh=>bN (d:=d) (t:=t) (h:=h)
  have hP:=λh=>bO (d:=d) (h:=h)
  rw [E5T] at hid;rw [A2t];generalize encI (d::t)=y at *;exact ⟨_,_,by simp only [esc,s1,hD,hP,c0]<;>rfl,by rw [B7];omega,_,rfl,by omega,hr⟩
 | e+1,i,m+1,h,id,hi,hm,hlow,hid,hr=>by
  have c0:(i:Int)<(D1 d:Nat):=by omega
  have C67:=P5 d;have hB:=E4 (d:=d) ht;have hrd:rd h g.length=rT (encI (d::t)):=hlow.rd (by simp);have s1:=C7 (h:=h) (id:=g.length) (cs:=encI (d::t)) hrd hB;have hD:=λh=>bN (d:=d) (t:=t) (h:=h)
  have hP:=λh=>bO (d:=d) (h:=h)
  have a1:=adX (id:=g.length) (i:=i) (by omega);have l1:=ldX (h:=h) (id:=g.length) hrd ht (i:=i) (by omega);have w1:=D3 (show i+1<9223372036854775808 by omega);have hul:=gQ t i;have hIn:=B2q (x:=toX t i) (Has.row (sz:=1) (n:=(M7 t i).length) hr (by rw [B7];omega) (cG _)) (by omega);rw [A2t];have skip:zT t i=A6->∃ v h',A0x q m (pV g.length 0) (sV id 0 (M7 t i).length 1) (iV ((i+1:Nat):Int)) h=A4 (v,h')/\Out g.length h' v 1 (M7 t (D1 d)).length (encI (M7 t (D1 d))):=by
   intro c;have hu:M7 t (i+1)=M7 t i:=by rw [A1D,c];simp
   have:=A5t (d:=d) (q:=q) ht e (i+1) m h id (by omega) (by omega) hlow hid (by rw [hu];exact hr);rw [hu] at this;exact this
  by_cases cz:toX t i=0
  ·obtain ⟨v,h',f1,f2⟩:=skip (by unfold zT;rw [decide_eq_true cz];rfl);rw [cz] at l1;refine ⟨v,h',?_,f2⟩;generalize encI (d::t)=z at *;simp only [esc,s1,hD,hP,c0,a1,l1,qN,w1];exact f1
  ·rw [E00 cz] at hIn;cases cs:pD t i with
   | false =>
    obtain ⟨v,h',f1,f2⟩:=skip (by unfold zT;rw [cs,E6T]);rw [cs] at hIn;refine ⟨v,h',?_,f2⟩;generalize encI (d::t)=z at *;simp only [esc,s1,hD,hP,c0,a1,l1,cz,hIn,qN,w1];exact f1
   | true =>
    rw [cs] at hIn;have cb:zT t i=A5:=by unfold zT;rw [cs,decide_eq_false cz];rfl
    have hu:M7 t (i+1)=M7 t i++[toX t i]:=by rw [A1D,if_pos cb]
    obtain ⟨h1,b1,b2,b3,b4,b5⟩:=push (ys:=[.i .i64 (toX t i)]) (sz:=1) (n:=(M7 t i).length) hlow hr (by rw [B7];omega) hid rfl (by omega) (by omega);have he:encI (M7 t i)++[.i .i64 (toX t i)]=encI (M7 t (i+1)):=by rw [hu];simp [encI]
    rw [he] at b2;obtain ⟨v,h',f1,f2⟩:=A5t (d:=d) (q:=q) ht e (i+1) m h1 (h.length+1) (by omega) (by omega) b3 b4 b2;have hl1:(M7 t (i+1)).length=(M7 t i).length+1:=by rw [hu];simp
    rw [hl1] at f1;have ef:E6 [o0] [(0,1,iV (toX t i))]=A4 [.i .i64 (toX t i)]:=rfl;refine ⟨v,h',?_,f2⟩;generalize encI (d::t)=z at *;simp only [esc,s1,hD,hP,c0,a1,l1,cz,hIn,ef,b1,qN,w1];exact f1
def A6I {d:Int} {t:List Int} {h:B5} (ht:t.length=32):A19 [.a (encI (d::t))] h=A4 (sV h.length 0 (M7 t (D1 d)).length 1,h++[rT (encI (M7 t (D1 d)))]):=by
 have key:∀ N,32<N->∀ g,∃ v g',A1V N [.a (encI (d::t))] g=A4 (v,g')/\Out g.length g' v 1 (M7 t (D1 d)).length (encI (M7 t (D1 d))):=by
  intro N hN g;have hm:=P5 d;obtain ⟨v,g',f1,f2⟩:=A5t (g:=g) (d:=d) (q:=N) ht (D1 d) 0 N (g++[rT (encI (d::t)),rT [],rT []]) (g.length+2) (by omega) (by omega)
   (by have:=(Low.refl (h:=g++[rT (encI (d::t))]) (E5V _)).new [rT [],rT []];simpa using this) (by simp) (by simp [M7,encI])
  rw [show M7 t 0=[] from rfl] at f1;rw [B6Y];refine ⟨v,g',?_,f2⟩;generalize encI (d::t)=z at *;simp only [esc] at f1 ⊢;exact f1
 obtain ⟨v,g',e,ho⟩:=key (h.length+33) (by omega) (ro h);exact B5r e (by simpa [F7] using ho) (by simp)
def D0Z {x k q:Nat} {b:Int} {h:B5} (hx:x<4294967296) (hk:(k:Int)=max 0 (min b 32)):∀ e i m:Nat,i+e=k->e<m ->
  C2o q m (.c (.i .u64 (x:Int))) (iV b) (.c (.i .u64 ((2 ^ i:Nat):Int))) (iV (i:Int)) h=A4 (iV ((x%2 ^ k:Nat):Int),h)
 | e,i,0,_,hm=>by omega
 | 0,i,m+1,hi,hm=>by
  have e0:i=k:=by omega
  subst e0;have hp0:0<2 ^ i:=Nat.pow_pos (by omega);have hm2:x%2 ^ i<=x:=Nat.mod_le _ _;rw [B1A];generalize 2 ^ i=s at *;have e1:N4 .rem (.c (.i .u64 (x:Int))) (.c (.i .u64 (s:Int)))=A4 (.c (.i .u64 ((x%s:Nat):Int))):=by rw [A2G (a:=(x:Int)) (b:=(s:Int)) (by omega) (by omega)];simp
  have w1:E5U .i64 ((x%s:Nat):Int)=((x%s:Nat):Int):=wrap_i64 (by omega) (by omega);generalize x%s=y at *;by_cases c1:(i:Int)<b
  ·have c2:¬ (i:Int)<32:=by omega
   simp only [esc,c1,c2,e1,w1]
  ·simp only [esc,c1,e1,w1]
 | e+1,i,m+1,hi,hm=>by
  have ih:=D0Z (q:=q) (h:=h) hx hk e (i+1) m (by omega) (by omega);have c1:(i:Int)<b:=by omega
  have c2:(i:Int)<32:=by omega
  have hp:2 ^ i<=2 ^ 32:=Nat.pow_le_pow_right (by omega) (by omega);have w1:E5U .u64 (((2 ^ i:Nat):Int)*2)=((2 ^ (i+1):Nat):Int):=by
   rw [Nat.pow_succ];generalize 2 ^ i=y at hp ⊢;rw [wrap_u64 (by omega) (by omega)];omega
  rw [B1A];generalize ((2 ^ (i+1):Nat):Int)=y1 at *;generalize ((2 ^ i:Nat):Int)=y at *;simp only [esc,c1,c2,w1,D3 (show i+1<9223372036854775808 by omega)];exact ih
def D2l {x:Nat} {b:Int} {h:B5} (hx:x<4294967296):B5g [.c (.i .u64 (x:Int)),iV b] h=A4 (iV (C9q x b:Nat),h):=by
 have e:=D0Z (q:=33) (b:=b) (h:=ro h) (k:=(max 0 (min b 32)).toNat) hx (by omega) (max 0 (min b 32)).toNat 0 33 (by omega) (by omega);have e2:x%2 ^ (max 0 (min b 32)).toNat=C9q x b:=by
  unfold C9q;by_cases c1:b<1
  ·have:(max 0 (min b 32)).toNat=0:=by omega
   rw [if_pos c1,this];simp [Nat.mod_one]
  ·rw [if_neg c1];by_cases c2:32<=b
   ·have:(max 0 (min b 32)).toNat=32:=by omega
    rw [if_pos c2,this];exact E6K (by omega)
   ·have:(max 0 (min b 32)).toNat=b.toNat:=by omega
    rw [if_neg c2,this]
 rw [e2] at e;exact C3r (n:=33) (h2:=ro h) (by rw [C8s];exact e) rfl
def A46 (s:Int):Int:=if s<1 then 0 else if 34304<s then 134 else (s+255)/256
section
variable (n m m2:Nat) (a0 x0 x3 x4:Val) (h:B5)
def A1v:FD A8:=⟨px 0X12af203e2a0240000721af4050021a19031829f3001c488390488011c14883e048818044881d2a171281b018181531307024061202971014294203006051111961820134884a17424882481042,[],[],[.tmp 2],[]⟩
def B9p:=A1v.R
def C6M:AtH:=A1v.lj 0 n [m] [x0,x3,x4]
def C91:=tT [⟨2,3,C6M⟩]
def D1e:=mR B9p A1v C91 n [a0] h
def B3Z:=mL A1v C91 0 n [m] [x0,x3,x4] h
def C9L:=A1v.K Tryz.func13
def B9S:=A1v.S
def C8O:pY B9p B9S:=C9L.out
end
def D1T {h:B5} {v:Val} {D:Dev} (hv:Has h v 256 D.length (D5 D)) (hD:okD D) {i:Nat} (hi:i<D.length) :
  ∃ id off,v=sV id off D.length 256/\id<h.length/\D9 256 v (iV (i:Int))=A4 (pV id (off+i*256))/\D4 h 256 (pV id (off+i*256))=A4 (.a (B4 D[i])):=by
 obtain ⟨id,off,rfl,hid,_,h2⟩:=hv.sl (by omega);refine ⟨id,off,rfl,hid,C9 hi,?_⟩;rw [h2 (i*256) 256 (by rw [J4 hD];omega),dD hD hi]
def C97 {b:List UInt8} (hb:b.length=256):E6 (E5R 256 (Cell.i .u8 0)) [(0,256,.a (B4 b))]=A4 (B4 b):=by
 have hl:(B4 b).length=256:=by rw [A9,hb]
 have hz:(E5R 256 (Cell.i .u8 0)).length=256:=E6n;generalize E5R 256 (Cell.i .u8 0)=z at *;generalize B4 b=y at *;simp only [E6,B1j];rw [if_pos ⟨hl,by omega⟩];simp only [lay_all (by omega:y.length=z.length)]
def D6P {g:B5} {D:Dev} {v:Val} {q:Nat} (hv:Has g v 256 D.length (D5 D)) (hD:okD D) (h60:D.length<=1073741823):∀ (e i m id:Nat) (h:B5),i+e=D.length->e<m->Low g.length g h->g.length<=id->rd h id=rT (D5 (D.take i)) ->
  ∃ v' h',C6M q m v (sV id 0 i 256) (iV (i:Int)) h=A4 (v',h')/\Out g.length h' v' 256 D.length (D5 D)
 | e,i,0,id,h,_,hm,_,_,_=>by omega
 | 0,i,m+1,id,h,hi,hm,hlow,hid,hr=>by
  have e0:i=D.length:=by omega
  have c0:¬ (i:Int)<(D.length:Nat):=by omega
  have hl:=(hv.since hlow).len;rw [e0,List.take_length] at hr;rw [B3Z];exact ⟨_,_,by simp only [esc,hl,c0]<;>rfl,J4 hD,id,by rw [e0],hid,hr⟩
 | e+1,i,m+1,id,h,hi,hm,hlow,hid,hr=>by
  have P6:i<D.length:=by omega
  have c0:(i:Int)<(D.length:Nat):=by omega
  have hvh:=hv.since hlow;have hl:=hvh.len;obtain ⟨jd,off,e1,hj,a1,l1⟩:=D1T hvh hD P6;have ef:=C97 (hD.at P6);have htl:(D.take i).length=i:=by rw [E6l];omega
  obtain ⟨h',p1,p2,p3,p4,p5⟩:=push (ys:=B4 D[i]) hlow hr (by rw [J4 (hD.take i),htl]) hid (by rw [A9,hD.at P6]) (by omega) (by omega);have et:D5 (D.take i)++B4 D[i]=D5 (D.take (i+1)):=by
   rw [E58 P6,C81,D4V]
  rw [et] at p2;obtain ⟨v',h'',f1,f2⟩:=D6P (q:=q) hv hD h60 e (i+1) m (h.length+1) h' (by omega) (by omega) p3 p4 p2;refine ⟨v',h'',?_,f2⟩;rw [B3Z];generalize B4 D[i]=y at *;simp only [esc,hl,c0,a1,l1,ef,p1,D3 (show i+1<9223372036854775808 by omega)];exact f1
def E4t {v:Val} {D:Dev} {h:B5} (hv:Has h v 256 D.length (D5 D)) (hD:okD D) (h60:D.length<=1073741823):B9S [v] h=A4 (sV h.length 0 D.length 256,h++[rT (D5 D)]):=by
 have key:∀ g,Has g v 256 D.length (D5 D)->∃ v' g',B9p (D.length+1) [v] g=A4 (v',g')/\Out g.length g' v' 256 D.length (D5 D):=by
  intro g hv;obtain ⟨v',h',f1,f2⟩:=D6P (q:=D.length+1) hv hD h60 D.length 0 (D.length+1) (g.length+1) (g++[rT [],rT []]) (by omega) (by omega) ((Low.refl (E5V _)).new _) (by omega) (by simp [D5]);rw [D1e];exact ⟨v',h',by simp only [esc];exact f1,f2⟩
 obtain ⟨v',g',e,ho⟩:=key (ro h) hv.ro;exact C8O e (by simpa [F7] using ho) iR
end Go.Proofs.YtbnkgnfhgbhblaaGreat
