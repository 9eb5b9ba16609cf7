/- Parts of the proof. -/
import Derived.Test.YtihbbcealnnpiaaGreatDoorGmEvTab
import Derived.Test.YtihbbcealnnpiaaGreatDoorGmNumOver
import Derived.Test.YtihbbcealnnpiaaGreatDoorGmLiOver
set_option linter.unusedVariables false
namespace Go.Proofs.YtihbbcealnnpiaaGreatDoor
section
section
open Go.RowKit
set_option maxRecDepth 100000
set_option maxHeartbeats 4000000
abbrev RT0:Type:=((Bool × Unit) × (Unit))
abbrev RT1:Type:=((Int × Unit) × (v6 × Unit))
abbrev RT2:Type:=((Int × Unit) × (Unit))
abbrev RT3:Type:=(((List Int) × Unit) × (Unit))
abbrev RT4:Type:=((i9 × Unit) × (Unit))
abbrev RT5:Type:=((l6 × Unit) × (Unit))
abbrev RT6:Type:=((i6 × Unit) × (Unit))
abbrev RT8:Type:=((I4 × Unit) × (Unit))
abbrev N8:Type:=(((List Int) × Unit) × (v6 × Unit))
abbrev G4:Type:=((Unit) × (v6 × Unit))
abbrev uL:Type:=((Int × Int × Unit) × (v6 × Unit))
abbrev K4:Type:=((Int × Int × Unit) × (Unit))
abbrev J9:Type:=((l6 × i6 × Unit) × (Unit))
abbrev o5:Type:=(((List d7) × i6 × Unit) × (Unit))
abbrev Tx:Type:=(((List d7) × Unit) × (Unit))
abbrev I2:Type:=((l6 × Int × Int × Unit) × (Unit))
abbrev T6:Type:=(((b36) × Int × Bool × Unit) × (Unit))
abbrev A6:Type:=((Int × i9 × Unit) × (Unit))
abbrev Fo:Type:=(((b36) × Int × Unit) × (Unit))
abbrev T8:Type:=((Bool × i9 × Unit) × (Unit))
abbrev V9:Type:=(((List (b36)) × (List Int) × Unit) × (Unit))
abbrev W4:Type:=(((List o4) × Int × Unit) × (Unit))
abbrev O2:Type:=((Int × d8 × Unit) × (Unit))
abbrev l9:Type:=((d8 × Unit) × (Unit))
abbrev S8:Type:=(((List w8) × d8 × Unit) × (Unit))
abbrev Ja:Type:=(((List l6) × x8 × Unit) × (Unit))
abbrev Jv:Type:=(((List d7) × x8 × Unit) × (Unit))
abbrev I7:Type:=((l7 × x8 × Unit) × (Unit))
abbrev O4:Type:=((o9 × Unit) × (Unit))
abbrev zX:Type:=((l7 × Bool × Unit) × (Unit))
abbrev Kw:Type:=(((List o4) × Unit) × (Unit))
abbrev R5:Type:=(((List i5) × Unit) × (Unit))
abbrev C4:Type:=(((List i5) × B8 × Unit) × (Unit))
abbrev Rq:Type:=(((b36) × Unit) × (Unit))
abbrev b3S:=Option l9
abbrev b3T:=Option o5
abbrev b3U:=Option A6
abbrev b3V:=Option C4
abbrev b3W:=Option G4
abbrev b3X:=Option I2
abbrev b3Y:=Option I7
abbrev b3Z:=Option K4
abbrev b30:=Option O4
abbrev b31:=Option R5
abbrev b32:=Option S8
abbrev b33:=Option T6
abbrev b34:=Option T8
abbrev b35:=Option W4
inductive Q_C where
 |c0(a:(b36))(b:Int)
 |c1(a:(b36))(b:Int)(c:Bool)
 |c2(a:(b36))(b:Int)(c:Bool)(d:UInt8)
 |c3(a:(b36))(b:Int)(c:Bool)(d:UInt8)
 |c4(a:Int)
 |c5(a:(b36))(b:Int)
 |c6(a:(b36))(b:Int)(c:Int)(d:Int)(e:Int)
 |c7(a:Int)(b:Int)
 |c8(a:Int)
 |c9(a:Int)
 |c10(a:Int)
 |c11
 |c12(a:(b36))(b:Int)
 |c13(a:(b36))(b:Int)
 |c14(a:Int)
 |c15(a:(b36))
 |c16(a:(b36))(b:Int)
 |c17
 |c18(a:I4)
 |c19(a:Int)
 |c20(a:I4)
 |c21(a:(b36))
 |c22(a:(b36))(b:(b36))(c:Int)
 |c23(a:(b36))(b:(b36))
 |c24(a:(b36))(b:(b36))
 |c25(a:(b36))(b:(b36))
 |c26(a:(b36))(b:(b36))(c:Int)(d:Int)
 |c27(a:(b36))(b:(b36))
 |c28(a:(b36))(b:(b36))(c:(b36))
 |c29(a:(b36))(b:(b36))(c:Int)
 |c30(a:(b36))(b:Int)
 |c31(a:(b36))(b:Int)(c:Int)
 |c32(a:(b36))(b:Int)(c:Int)
 |c33(a:(b36))(b:Int)(c:Int)(d:RT2)(e:Int)(f:Int)
 |c34(a:(b36))(b:Int)(c:Int)(d:RT2)(e:Int)(f:Int)
 |c35(a:(b36))(b:Int)(c:Int)(d:RT2)
 |c36(a:(b36))(b:Int)(c:Int)(d:RT2)(e:Int)(f:Int)
 |c37(a:Int)
 |c38(a:Int)
 |c39(a:Int)
 |c40
 |c41(a:(b36))
 |c42(a:(b36))(b:Int)(c:(List Int))
 |c43(a:(b36))(b:Int)(c:(List Int))
 |c44(a:(b36))(b:Int)(c:Int)(d:(List Int))
 |c45(a:(b36))
 |c46(a:(b36))(b:Int)(c:(List Int))
 |c47(a:(b36))(b:Int)(c:(List Int))
 |c48(a:(b36))(b:Int)
 |c49(a:(b36))(b:Int)
 |c50(a:(b36))(b:Int)(c:Int)
 |c51(a:(b36))(b:Int)
 |c52(a:(b36))(b:Int)(c:Int)
 |c53
 |c54(a:(b36))
 |c55(a:(b36))(b:Int)(c:Int)(d:Int)(e:Int)(f:(List l6))
 |c56(a:(b36))(b:Int)(c:Int)(d:Int)(e:(List l6))
 |c57(a:i6)
 |c58(a:i6)
 |c59(a:i6)(b:(b36))
 |c60(a:Int)(b:l6)(c:(b36))(d:Int)(e:(List d7))
 |c61(a:i6)(b:Int)
 |c62(a:i6)(b:(b36))
 |c63(a:i6)(b:Int)
 |c64(a:i6)(b:RT5)
 |c65(a:i6)(b:(b36))
 |c66(a:(b36))(b:i6)
 |c67(a:i6)(b:(b36))
 |c68(a:i6)
 |c69(a:Int)(b:i6)(c:RT5)
 |c70(a:i6)(b:RT5)
 |c71(a:i6)(b:Int)
 |c72(a:i6)
 |c73(a:i6)(b:RT5)(c:J9)(d:(List d7))
 |c74(a:i6)(b:RT5)(c:J9)(d:(List d7))
 |c75(a:(List d7))(b:(List d7))
 |c76(a:i6)
 |c77(a:Int)(b:i6)(c:(List d7))
 |c78(a:Int)(b:i6)(c:(List d7))
 |c79(a:i6)(b:(List d7))
 |c80(a:i6)
 |c81(a:i6)(b:RT5)
 |c82(a:i6)(b:RT5)
 |c83(a:i6)
 |c84(a:i6)
 |c85(a:(List d7))(b:i6)
 |c86(a:(List d7))(b:i6)
 |c87(a:(List d7))(b:i6)
 |c88(a:i6)
 |c89(a:i6)(b:RT5)
 |c90(a:Int)
 |c91(a:i6)(b:Int)
 |c92(a:Int)(b:(List d7))(c:Bool)(d:i6)(e:V9)
 |c93(a:Int)(b:(List d7))(c:Bool)(d:V9)(e:Int)(f:i6)
 |c94(a:Int)(b:(List d7))(c:Bool)(d:i6)(e:V9)
 |c95(a:(List d7))(b:i6)
 |c96(a:i6)
 |c97(a:RT5)(b:i6)(c:(List d7))
 |c98(a:(List d7))(b:RT5)(c:i6)
 |c99(a:o5)(b:RT5)
 |c100(a:o5)(b:RT5)
 |c101(a:o5)(b:i6)(c:RT5)
 |c102(a:o5)(b:d7)(c:RT5)
 |c103(a:i6)
 |c104(a:i6)(b:RT5)(c:(List d7))
 |c105(a:i6)(b:RT5)(c:(List d7))
 |c106(a:i6)
 |c107(a:Int)(b:i6)(c:RT5)(d:J9)(e:(List d7))
 |c108(a:Int)(b:i6)(c:RT5)(d:J9)(e:(List d7))
 |c109(a:Int)(b:i6)(c:RT5)(d:J9)(e:(List d7))
 |c110(a:Int)(b:i6)(c:RT5)(d:J9)(e:(List d7))(f:(List d7))
 |c111(a:i6)
 |c112(a:i6)(b:(List d7))
 |c113(a:i6)(b:(List d7))(c:(List d7))
 |c114(a:i6)(b:(List d7))
 |c115(a:(List d7))(b:i6)
 |c116(a:(List d7))(b:i6)
 |c117(a:(b36))
 |c118(a:(List d7))(b:Int)
 |c119(a:(List d7))(b:Int)(c:Int)(d:(List Int))
 |c120(a:(List Int))
 |c121(a:(List d7))(b:Int)
 |c122(a:(List d7))(b:Int)(c:d7)(d:Int)
 |c123(a:Int)(b:d7)(c:Int)
 |c124(a:(List d7))
 |c125(a:(b36))(b:Int)
 |c126(a:(b36))(b:Int)
 |c127(a:(b36))
 |c128(a:(b36))
 |c129(a:d7)
 |c130(a:d7)
 |c131(a:d7)
 |c132(a:d7)
 |c133(a:d7)
 |c134(a:d7)
 |c135(a:d7)
 |c136
 |c137(a:(b36))(b:Int)
 |c138(a:(b36))(b:Int)(c:Int)
 |c139
 |c140(a:(List d7))(b:Int)
 |c141(a:(List d7))(b:Int)(c:RT3)(d:Int)(e:(List Int))
 |c142(a:(List d7))(b:Int)(c:RT3)(d:(List Int))
 |c143(a:(List d7))(b:Int)(c:(List Int))(d:d7)
 |c144(a:(List d7))
 |c145(a:(List d7))(b:Int)
 |c146
 |c147(a:d8)
 |c148(a:d8)(b:(b36))
 |c149(a:(b36))(b:d8)(c:Int)
 |c150
 |c151(a:(List d7))(b:Int)
 |c152(a:(List d7))(b:Int)(c:RT3)(d:Int)(e:(List Int))
 |c153(a:(List Int))
 |c154(a:(List d7))(b:(List Int))(c:(b36))
 |c155(a:(List d7))(b:(List Int))(c:(b36))(d:Int)
 |c156
 |c157(a:Int)
 |c158(a:Int)(b:Int)(c:(List o4))
 |c159(a:(List o4))
 |c160(a:d8)(b:Int)(c:i8)
 |c161(a:(List o4))(b:Int)
 |c162(a:(List o4))(b:Int)(c:Int)(d:(List o4))
 |c163(a:(List o4))(b:Int)(c:(List o4))
 |c164(a:(List d7))
 |c165(a:(List o4))(b:(List (b36)))(c:d7)
 |c166(a:(List o4))(b:(List (b36)))(c:Int)(d:d7)
 |c167
 |c168(a:(List o4))(b:(List (b36)))(c:(List d7))
 |c169(a:(List d7))(b:Int)(c:Int)(d:(List o4))
 |c170(a:Int)(b:(List o4))
 |c171(a:d8)(b:Int)(c:i8)
 |c172(a:d8)(b:Int)(c:Int)
 |c173(a:d8)(b:Int)
 |c174(a:d8)(b:Int)(c:Int)
 |c175(a:d8)
 |c176(a:d8)(b:RT3)(c:Int)(d:d8)
 |c177(a:d8)(b:RT3)(c:Int)(d:d8)
 |c178(a:d8)(b:RT3)(c:Int)(d:d8)
 |c179(a:d8)(b:RT3)(c:d8)
 |c180(a:d8)(b:RT3)(c:Int)(d:l9)(e:(List (b36)))
 |c181(a:d8)(b:RT3)(c:Int)(d:d8)
 |c182(a:d8)(b:RT3)(c:Int)(d:RT3)(e:Int)(f:Int)(h:Int)(j:d8)
 |c183(a:d8)
 |c184(a:d8)(b:RT3)(c:Int)(d:RT3)(e:Int)(f:Int)(h:Int)(j:d8)
 |c185(a:d8)(b:RT3)(c:Int)(d:RT3)(e:Int)(f:Int)(h:Int)(j:d8)
 |c186(a:d8)(b:RT3)(c:Int)(d:RT3)(e:Int)(f:Int)(h:d8)
 |c187(a:d8)(b:RT3)(c:Int)(d:RT3)(e:Int)(f:Int)(h:Int)(j:l9)(k:(List R0))
 |c188(a:d8)(b:RT3)(c:Int)(d:d8)(e:(List N3))
 |c189(a:(b36))
 |c190(a:(b36))(b:Int)
 |c191
 |c192(a:d8)(b:Int)(c:i8)
 |c193(a:d8)(b:Int)(c:Int)
 |c194(a:d8)(b:Int)
 |c195(a:d8)
 |c196(a:d8)(b:RT3)(c:Int)(d:d8)
 |c197(a:d8)(b:RT3)(c:Int)(d:Int)(e:RT3)(f:Int)(h:Int)(j:d8)
 |c198(a:d8)(b:RT3)(c:Int)(d:Int)(e:Int)(f:d8)
 |c199(a:d8)
 |c200(a:d8)(b:RT3)(c:Int)(d:Int)(e:RT3)(f:Int)(h:Int)(j:d8)
 |c201(a:d8)(b:RT3)(c:Int)(d:Int)(e:RT3)(f:Int)(h:Int)(j:d8)
 |c202(a:d8)(b:RT3)(c:Int)(d:Int)(e:RT3)(f:Int)(h:d8)
 |c203(a:d8)(b:RT3)(c:Int)(d:Int)(e:Int)(f:d8)
 |c204(a:d8)(b:RT3)(c:Int)(d:Int)(e:RT3)(f:Int)(h:Int)(j:l9)
 |c205(a:d8)(b:RT3)(c:Int)(d:l9)(e:(List u9))
 |c206(a:d8)(b:RT3)(c:Int)(d:Int)(e:d8)
 |c207(a:d8)(b:Int)(c:(List w8))(d:(b36))(e:Int)(f:Int)(h:Int)
 |c208(a:d8)(b:Int)(c:Int)
 |c209(a:d8)(b:Int)(c:i8)
 |c210(a:d8)(b:Int)
 |c211(a:d8)(b:Int)(c:(List w8))(d:Int)
 |c212(a:Int)(b:(List w8))(c:Int)(d:Int)(e:d8)
 |c213(a:Int)(b:(List w8))(c:Int)(d:Int)(e:Int)(f:Int)(h:d8)(j:d7)
 |c214(a:Int)(b:(List w8))(c:Int)(d:Int)(e:Int)(f:d8)
 |c215(a:d8)
 |c216(a:Int)(b:(List w8))(c:Int)(d:Int)(e:Int)(f:d8)
 |c217(a:Int)(b:(List w8))(c:Int)(d:Int)(e:d8)
 |c218(a:d8)(b:Int)(c:(List w8))(d:Int)(e:Int)
 |c219(a:Int)(b:(List w8))(c:RT3)(d:Int)(e:d8)
 |c220(a:Int)(b:(List w8))(c:Int)(d:Int)(e:d8)(f:O2)(h:Int)(j:d8)(k:d7)
 |c221(a:Int)(b:(List w8))(c:Int)(d:Int)(e:d8)(f:O2)(h:d8)(j:d7)
 |c222(a:(List w8))(b:d8)
 |c223(a:Int)(b:(List w8))(c:Int)(d:Int)(e:d8)(f:O2)(h:d8)(j:d7)
 |c224(a:Int)(b:(List w8))(c:Int)(d:Int)(e:d8)(f:O2)(h:d8)(j:d7)
 |c225(a:d8)(b:Int)(c:(List w8))(d:Int)
 |c226(a:Int)(b:(List w8))(c:Int)(d:RT3)(e:Int)(f:d8)
 |c227(a:(List w8))(b:Int)(c:d8)
 |c228(a:(List w8))(b:Int)(c:Int)(d:d8)(e:(List J1))
 |c229(a:d8)(b:(List J1))
 |c230(a:d8)(b:Int)
 |c231(a:Int)(b:RT3)(c:Int)(d:d8)(e:(List w8))
 |c232(a:Int)(b:RT3)(c:d8)(d:(List w8))
 |c233(a:(List d7))
 |c234(a:Int)(b:Int)(c:d8)
 |c235(a:d8)
 |c236(a:RT2)(b:d8)
 |c237(a:d8)
 |c238(a:d8)
 |c239(a:i9)(b:Int)(c:Int)
 |c240(a:i9)(b:Bool)(c:Int)
 |c241(a:(List o4))(b:Int)(c:Int)
 |c242(a:i9)(b:Int)(c:Int)
 |c243(a:Int)
 |c244(a:i9)(b:Int)
 |c245(a:i9)(b:Int)(c:Int)
 |c246(a:i9)(b:Int)
 |c247(a:Int)(b:RT3)(c:Int)(d:i9)(e:(List Int))
 |c248(a:Int)(b:i9)(c:RT3)(d:(List Int))
 |c249(a:Fo)(b:RT3)(c:Int)(d:i9)(e:(List Int))
 |c250(a:RT3)(b:Int)(c:i9)(d:u9)(e:(List Int))
 |c251(a:Fo)(b:i9)
 |c252(a:i9)(b:u9)
 |c253(a:i9)(b:Int)(c:Int)
 |c254(a:Int)(b:A6)
 |c255(a:Int)(b:Int)(c:A6)(d:N3)
 |c256(a:Int)(b:A6)
 |c257(a:i9)(b:Int)(c:Int)(d:Int)
 |c258(a:Int)(b:Int)
 |c259(a:Int)(b:Int)(c:RT2)(d:RT2)(e:i9)
 |c260(a:Int)
 |c261(a:Int)(b:Int)
 |c262
 |c263(a:i9)(b:Int)(c:Int)
 |c264(a:i9)(b:Int)
 |c265(a:Int)(b:Int)(c:i9)
 |c266(a:Int)(b:Int)(c:A6)(d:RT3)
 |c267(a:Int)(b:Int)(c:A6)(d:A6)(e:RT3)
 |c268(a:Int)(b:i8)(c:i9)(d:d7)(e:RT3)
 |c269(a:i9)(b:Int)
 |c270(a:A6)(b:A6)(c:i9)(d:RT3)
 |c271(a:Bool)(b:Int)(c:i9)(d:RT3)
 |c272(a:i9)(b:RT3)
 |c273(a:Bool)(b:i9)
 |c274(a:i9)(b:Int)
 |c275(a:Bool)(b:RT3)(c:Int)(d:i9)
 |c276(a:Bool)(b:i9)
 |c277(a:(List d7))
 |c278(a:(List d7))(b:I7)(c:Int)(d:i9)
 |c279(a:I7)(b:i9)
 |c280(a:(b36))
 |l16_source(a:(b36))
 |c282(a:v6)(b:Int)
 |c283(a:Int)(b:v6)(c:Int)(d:(List Int))
 |c284(a:v6)(b:(List Int))
 |c285(a:v6)(b:Int)(c:Int)(d:Int)
 |c286(a:v6)
 |c287(a:v6)(b:Int)
 |c288(a:v6)(b:(b36))
 |c289(a:(b36))(b:Int)(c:Bool)(d:v6)
 |c290(a:v6)(b:d7)(c:i8)
 |c291(a:v6)(b:Int)
 |c292(a:Int)(b:(List Int))(c:Int)(d:Int)(e:d7)(f:i8)(h:v6)
 |c293(a:Int)(b:Int)(c:G4)(d:N8)
 |c294(a:Int)(b:d7)(c:N8)
 |c295(a:Int)(b:(List Int))(c:d7)(d:i8)(e:N8)
 |c296(a:Int)(b:d7)(c:i8)(d:v6)
 |c297(a:v6)(b:Int)(c:(List Int))
 |c298(a:Int)(b:(List Int))(c:N8)(d:Int)(e:v6)
 |c299(a:Int)(b:(List Int))(c:v6)
 |c300(a:v6)(b:Int)
 |c301(a:Int)(b:v6)
 |c302(a:v6)(b:Int)
 |c303(a:N8)(b:Int)(c:v6)
 |c304(a:l7)
 |c305(a:l7)(b:Int)(c:v6)
 |c306(a:l7)(b:Int)(c:RT1)(d:RT2)(e:u9)(f:Int)
 |c307(a:v6)
 |c308(a:l7)(b:Int)(c:RT1)(d:(List B3))
 |c309(a:o9)(b:Int)
 |l16_awake
 |c311(a:o9)(b:o9)
 |c312(a:o9)(b:Int)(c:o9)
 |c313(a:o9)(b:o9)
 |c314(a:o9)(b:Int)(c:o9)
 |c315(a:o9)(b:o9)
 |c316(a:o9)(b:Int)(c:o9)
 |c317
 |c318(a:(List i5))(b:Int)
 |c319(a:(List i5))(b:Int)(c:Int)(d:(List i5))
 |c320(a:(List i5))(b:Int)(c:Int)(d:i5)(e:Int)(f:(List i5))
 |c321(a:(List i5))
 |c322(a:(List i5))(b:Int)(c:Int)(d:(List i5))
 |c323(a:(List i5))(b:(List i5))
 |c324(a:B8)(b:Int)(c:Int)(d:Int)
 |c325(a:B8)(b:(List Int))
 |c326(a:(List Int))(b:Int)(c:B8)(d:(List i5))
 |c327(a:B8)(b:(List i5))
 |c328(a:B8)(b:Int)
 |c329(a:C4)(b:(List (b36)))(c:(List i5))
 |c330(a:Int)(b:Int)(c:C4)(d:Int)(e:d7)
 |c331(a:Int)(b:(List Int))(c:B8)(d:d7)
 |c332(a:Int)(b:B8)(c:d7)(d:RT3)
 |c333(a:Int)(b:Int)(c:C4)(d:d7)
 |c334(a:Int)(b:Int)(c:C4)(d:(List (b36)))
 |c335(a:B8)(b:Int)(c:(List Int))(d:(List i5))
 |c336(a:B8)(b:Int)
 |c337(a:B8)(b:Int)
 |c338(a:RT3)(b:Int)(c:B8)(d:(List i5))
 |c339(a:B8)(b:(List i5))
 |c340(a:l7)
 |c341(a:l7)(b:Int)(c:B8)(d:(List i5))(e:(List B3))
 |c342(a:l7)(b:Int)(c:C4)(d:(List i5))(e:R5)(f:u9)(h:Int)(j:(List B3))
 |c343(a:B8)(b:(List i5))(c:(List B3))
 |c344(a:l7)(b:Int)(c:C4)(d:(List i5))(e:(List B3))
 |l16_GenCodes(a:(b36))
def Q_T:Q_C→Type
 |.c0 .. |.c1 .. |.c2 .. |.c3 .. |.c4 .. |.c8 .. |.c9 .. |.c10 .. |.c11 .. |.c12 .. |.c13 .. |.c14 .. |.c20 .. |.c37 .. |.c38 .. |.c39 .. |.c40 .. |.c121 .. |.c122 .. |.c123 .. |.c132 .. |.c133 .. |.c134 .. |.c135 .. |.c136 .. |.c148 .. |.c149 .. |.c150 .. |.c165 .. |.c166 .. |.c167 .. |.c189 .. |.c190 .. |.c191 .. |.c244 .. |.c257 .. |.c258 .. |.c259 .. |.c260 .. |.c261 .. |.c262 .. |.c286 .. =>RT2
 |.c5 .. |.c6 .. |.c7 .. |.c21 .. |.c22 .. |.c23 .. |.c24 .. |.c25 .. |.c26 .. |.c27 .. |.c28 .. |.c29 .. =>K4
 |.c15 .. |.c16 .. |.c17 .. |.c57 .. |.c59 .. |.c124 .. |.c125 .. |.c126 .. |.c127 .. |.c128 .. |.c129 .. |.c130 .. |.c131 .. |.c137 .. |.c138 .. |.c139 .. |.c140 .. |.c141 .. |.c142 .. |.c143 .. |.c144 .. |.c145 .. |.c146 .. |.c147 .. |.c154 .. |.c155 .. |.c156 .. |.c164 .. |.c241 .. |.c242 .. |.c245 .. |.l16_awake .. |.c311 .. |.c312 .. |.c313 .. |.c314 .. |.c315 .. |.c316 .. |.c317 .. |.l16_GenCodes .. =>RT0
 |.c18 .. |.c19 .. =>RT8
 |.c30 .. |.c31 .. |.c32 .. |.c33 .. |.c34 .. |.c35 .. |.c36 .. |.c48 .. |.c49 .. |.c50 .. |.c51 .. |.c52 .. |.c53 .. =>I2
 |.c41 .. |.c42 .. |.c43 .. |.c44 .. |.c45 .. |.c46 .. |.c47 .. =>T6
 |.c54 .. |.c55 .. |.c56 .. =>Ja
 |.c58 .. =>RT5
 |.c60 .. |.c75 .. =>Tx
 |.c61 .. |.c62 .. |.c65 .. |.c66 .. |.c67 .. =>RT6
 |.c63 .. |.c64 .. =>J9
 |.c68 .. |.c69 .. |.c70 .. |.c71 .. |.c72 .. |.c73 .. |.c74 .. |.c76 .. |.c77 .. |.c78 .. |.c79 .. |.c80 .. |.c81 .. |.c82 .. |.c83 .. |.c84 .. |.c85 .. |.c86 .. |.c87 .. |.c88 .. |.c89 .. |.c91 .. |.c92 .. |.c93 .. |.c94 .. |.c95 .. |.c96 .. |.c97 .. |.c98 .. |.c99 .. |.c100 .. |.c101 .. |.c102 .. |.c103 .. |.c104 .. |.c105 .. |.c106 .. |.c107 .. |.c108 .. |.c109 .. |.c110 .. |.c111 .. |.c112 .. |.c113 .. |.c114 .. =>o5
 |.c90 .. =>V9
 |.c115 .. |.c116 .. |.c117 .. =>Jv
 |.c118 .. |.c119 .. |.c120 .. |.c151 .. |.c152 .. |.c153 .. =>RT3
 |.c157 .. |.c158 .. |.c159 .. =>Kw
 |.c160 .. |.c171 .. |.c172 .. |.c174 .. |.c175 .. |.c176 .. |.c177 .. |.c178 .. |.c179 .. |.c180 .. |.c181 .. |.c182 .. |.c183 .. |.c184 .. |.c185 .. |.c186 .. |.c187 .. |.c188 .. |.c192 .. |.c193 .. |.c195 .. |.c196 .. |.c197 .. |.c198 .. |.c199 .. |.c200 .. |.c201 .. |.c202 .. |.c203 .. |.c204 .. |.c205 .. |.c206 .. |.c208 .. |.c209 .. |.c211 .. |.c212 .. |.c213 .. |.c214 .. |.c215 .. |.c216 .. |.c217 .. |.c225 .. |.c226 .. |.c227 .. |.c228 .. |.c229 .. |.c230 .. |.c231 .. |.c232 .. =>l9
 |.c161 .. |.c162 .. |.c163 .. |.c168 .. |.c169 .. |.c170 .. =>W4
 |.c173 .. |.c194 .. |.c210 .. =>O2
 |.c207 .. |.c218 .. |.c219 .. |.c220 .. |.c221 .. |.c222 .. |.c223 .. |.c224 .. =>S8
 |.c233 .. |.c234 .. |.c235 .. |.c236 .. |.c237 .. |.c238 .. |.c277 .. |.c278 .. |.c279 .. |.c280 .. =>I7
 |.c239 .. |.c240 .. |.c263 .. =>RT4
 |.c243 .. =>Fo
 |.c246 .. |.c247 .. |.c248 .. |.c249 .. |.c250 .. |.c251 .. |.c252 .. |.c253 .. |.c254 .. |.c255 .. |.c256 .. |.c264 .. |.c265 .. |.c266 .. |.c267 .. |.c268 .. =>A6
 |.c269 .. |.c270 .. |.c271 .. |.c272 .. |.c273 .. |.c274 .. |.c275 .. |.c276 .. =>T8
 |.l16_source .. =>zX
 |.c282 .. |.c283 .. |.c284 .. =>N8
 |.c285 .. |.c288 .. |.c289 .. =>RT1
 |.c287 .. |.c291 .. |.c292 .. |.c293 .. |.c294 .. |.c295 .. |.c296 .. |.c297 .. |.c298 .. |.c299 .. |.c300 .. |.c301 .. |.c302 .. |.c303 .. =>G4
 |.c290 .. =>uL
 |.c304 .. |.c305 .. |.c306 .. |.c307 .. |.c308 .. |.c340 .. |.c341 .. |.c342 .. |.c343 .. |.c344 .. =>O4
 |.c309 .. =>Rq
 |.c318 .. |.c319 .. |.c320 .. |.c321 .. |.c322 .. |.c323 .. |.c324 .. =>R5
 |.c325 .. |.c326 .. |.c327 .. |.c328 .. |.c329 .. |.c330 .. |.c331 .. |.c332 .. |.c333 .. |.c334 .. |.c335 .. |.c336 .. |.c337 .. |.c338 .. |.c339 .. =>C4
noncomputable def b16:Kl tab P0 Tryz.prog:=iA 18 (α:=((I4 × Unit) × Unit)) (β:=RT8) (fun x=>(Rx x.1.1).bind fun r=>some ((r,()),())) (ok:=fun x r h=>by
 obtain⟨d,hd,h⟩:=Yy h;cases h;exact Eq.mp (by kernel_rfl) (aP (a4v hd) (by kernel_rfl)))
noncomputable def a3D:Kl tab P0 Tryz.prog:=iA 19 (α:=((Int × Unit) × Unit)) (β:=RT8) (fun x=>(oG x.1.1).bind fun r=>some ((r,()),())) (ok:=fun x r h=>by
 obtain⟨d,hd,h⟩:=Yy h;cases h;exact Eq.mp (by kernel_rfl) (aP (b1O hd) (by kernel_rfl)))
noncomputable def b2g:Kl tab P0 Tryz.prog:=iA 20 (α:=((I4 × Unit) × Unit)) (β:=RT2) (fun x=>(Sv x.1.1).bind fun r=>some ((r,()),())) (ok:=fun x r h=>by
 obtain⟨d,hd,h⟩:=Yy h;cases h;exact Eq.mp (by kernel_rfl) (aP (a8y hd) (by kernel_rfl)))
noncomputable def a9S:Kl tab P0 Tryz.prog:=iA 309 (α:=((o9 × Int × Unit) × Unit)) (β:=Rq) (fun x=>(dR x.1.1 x.1.2.1).bind fun r=>some ((r,()),())) (ok:=fun x r h=>by
 obtain⟨d,hd,h⟩:=Yy h;cases h;exact Eq.mp (by kernel_rfl) (aP (b0B hd) (by kernel_rfl)))
noncomputable def yB:(i:Ix tab P0)→Option (Bx tab P0 i):=tO (P:=Tryz.prog) [b16,a3D,b2g,a9S]
theorem b0M(l:Nat)(x:Vars tab (P0.lb l).sh)(r:Res tab (P0.rh (P0.lb l).v))(_:P0.hd l=true)(h:yB ⟨l,x⟩=some r):Eh Tryz.prog P0 l x r:=UN _ l x r h
def xF:List FuncId:=[]
noncomputable def Q_B:=EVB (B:=tab) Tryz.prog P0 yB (Cr Tryz.prog P0 mS xF (Aa UL) (Aa UG) (Aa PG)) 1000
theorem Q_q(i:Ix tab P0):H1 Q_B i=Q_B (H1 Q_B) i:=GH (fun i=>MT _ _ _ _ _ _ _ _ i) i
noncomputable def YK:Q_C→Ix tab P0
 |.c0 a b=>mkI 0 ((a,b,()),())
 |.c1 a b c=>mkI 1 ((a,b,c,()),())
 |.c2 a b c d=>mkI 2 ((a,b,c,(d.toNat:Int),()),())
 |.c3 a b c d=>mkI 3 ((a,b,c,(d.toNat:Int),()),())
 |.c4 a=>mkI 4 ((a,()),())
 |.c5 a b=>mkI 5 ((a,b,()),())
 |.c6 a b c d e=>mkI 6 ((a,b,c,d,e,()),())
 |.c7 a b=>mkI 7 ((a,b,()),())
 |.c8 a=>mkI 8 ((a,()),())
 |.c9 a=>mkI 9 ((a,()),())
 |.c10 a=>mkI 10 ((a,()),())
 |.c11=>mkI 11 ((),())
 |.c12 a b=>mkI 12 ((a,b,()),())
 |.c13 a b=>mkI 13 ((a,b,()),())
 |.c14 a=>mkI 14 ((a,()),())
 |.c15 a=>mkI 15 ((a,()),())
 |.c16 a b=>mkI 16 ((a,([([114,101,99]:b36),([102,110]:b36),([118,97,114]:b36),([105,102]:b36),([101,108,115,101]:b36),([119,104,105,108,101]:b36),([114,101,116,117,114,110]:b36),([112,114,105,110,116]:b36),([116,114,117,101]:b36),([102,97,108,115,101]:b36),([110,105,108]:b36),([109,97,107,101]:b36),([105,110,116]:b36),([98,111,111,108]:b36),([115,116,114]:b36),([99,111,109,112]:b36)]:List (b36)),(([([114,101,99]:b36),([102,110]:b36),([118,97,114]:b36),([105,102]:b36),([101,108,115,101]:b36),([119,104,105,108,101]:b36),([114,101,116,117,114,110]:b36),([112,114,105,110,116]:b36),([116,114,117,101]:b36),([102,97,108,115,101]:b36),([110,105,108]:b36),([109,97,107,101]:b36),([105,110,116]:b36),([98,111,111,108]:b36),([115,116,114]:b36),([99,111,109,112]:b36)]:List (b36)).length:Int),b,()),())
 |.c17=>mkI 17 ((),())
 |.c18 a=>mkI 18 ((a,()),())
 |.c19 a=>mkI 19 ((a,()),())
 |.c20 a=>mkI 20 ((a,()),())
 |.c21 a=>mkI 21 ((a,()),())
 |.c22 a b c=>mkI 22 ((a,b,c,()),())
 |.c23 a b=>mkI 23 ((a,b,()),())
 |.c24 a b=>mkI 24 ((a,b,()),())
 |.c25 a b=>mkI 25 ((a,b,()),())
 |.c26 a b c d=>mkI 26 ((a,b,c,d,()),())
 |.c27 a b=>mkI 27 ((a,b,()),())
 |.c28 a b c=>mkI 28 ((a,b,c,()),())
 |.c29 a b c=>mkI 29 ((a,b,c,()),())
 |.c30 a b=>mkI 30 ((a,b,()),())
 |.c31 a b c=>mkI 31 ((a,b,(),c,()),((l6.mk 0 0 0 0 ([]:b36)),()))
 |.c32 a b c=>mkI 32 ((a,b,(),c,()),((l6.mk 0 0 0 0 ([]:b36)),()))
 |.c33 a b c d e f=>mkI 33 ((a,b,(),c,d.1.1,(),e,()),((l6.mk 0 0 0 0 ([]:b36)),(l6.mk f 0 0 0 ([]:b36)),()))
 |.c34 a b c d e f=>mkI 34 ((a,b,(),c,d.1.1,(),e,()),((l6.mk 0 0 0 0 ([]:b36)),(l6.mk f 0 0 0 ([]:b36)),()))
 |.c35 a b c d=>mkI 35 ((a,b,(),c,d.1.1,(),(9223372036854775807:Int),()),((l6.mk 0 0 0 0 ([]:b36)),(l6.mk 3 0 0 0 ([]:b36)),()))
 |.c36 a b c d e f=>mkI 36 ((a,b,(),c,d.1.1,(),e,()),((l6.mk 0 0 0 0 ([]:b36)),(l6.mk f 0 0 0 ([]:b36)),()))
 |.c37 a=>mkI 37 ((a,()),())
 |.c38 a=>mkI 38 ((a,()),())
 |.c39 a=>mkI 39 ((a,()),())
 |.c40=>mkI 40 ((),())
 |.c41 a=>mkI 41 ((a,()),())
 |.c42 a b c=>mkI 42 ((a,c,b,()),())
 |.c43 a b c=>mkI 43 ((a,c,(w64 (b+1)),()),())
 |.c44 a b c d=>mkI 44 ((a,d,(w64 (b+1)),c,()),())
 |.c45 a=>mkI 45 ((a,()),())
 |.c46 a b c=>mkI 46 ((a,c,b,()),())
 |.c47 a b c=>mkI 47 ((a,c,(w64 (b+1)),()),())
 |.c48 a b=>mkI 48 ((a,b,()),())
 |.c49 a b=>mkI 49 ((a,b,(),()),((l6.mk 0 0 0 0 ([]:b36)),()))
 |.c50 a b c=>mkI 50 ((a,b,(),([([38,38]:b36),([124,124]:b36),([61,61]:b36),([33,61]:b36),([60,61]:b36),([62,61]:b36)]:List (b36)),(([([38,38]:b36),([124,124]:b36),([61,61]:b36),([33,61]:b36),([60,61]:b36),([62,61]:b36)]:List (b36)).length:Int),c,()),((l6.mk 0 0 0 0 ([]:b36)),()))
 |.c51 a b=>mkI 51 ((a,b,(),()),((l6.mk 0 0 0 0 ([]:b36)),()))
 |.c52 a b c=>mkI 52 ((a,b,(),([43,45,42,47,37,60,62,33,61,40,41,123,125,91,93,44,59,58,46]:b36),c,()),((l6.mk 0 0 0 0 ([]:b36)),()))
 |.c53=>mkI 53 (((),()),((l6.mk 0 0 0 0 ([]:b36)),()))
 |.c54 a=>mkI 54 ((a,()),())
 |.c55 a b c d e f=>mkI 55 ((a,(),([]:List l6),f,b,c,d,e,()),((x8.mk 0 0 0),()))
 |.c56 a b c d e=>mkI 56 ((a,(),([]:List l6),e,b,c,d,()),((x8.mk 0 0 0),()))
 |.c57 a=>mkI 57 ((a,()),())
 |.c58 a=>mkI 58 ((a,()),())
 |.c59 a b=>mkI 59 ((a,b,()),())
 |.c60 a b c d e=>mkI 60 ((a,b,c,d,e,()),())
 |.c61 a b=>mkI 61 ((a,b,()),())
 |.c62 a b=>mkI 62 ((a,b,()),())
 |.c63 a b=>mkI 63 ((a,b,()),())
 |.c64 a b=>mkI 64 (((),(),(),(),()),(a,(l6.mk 0 0 0 0 ([]:b36)),((),(0:Int),(0:Int),(0:Int),(0:Int),(0:Int),()),b.1.1,()))
 |.c65 a b=>mkI 65 ((a,b,()),())
 |.c66 a b=>mkI 66 ((a,(),(),()),(b,((),(0:Int),(0:Int),(0:Int),(0:Int),(0:Int),()),()))
 |.c67 a b=>mkI 67 ((a,b,()),())
 |.c68 a=>mkI 68 ((a,()),())
 |.c69 a b c=>mkI 69 (((),(),(),([([105,110,116]:b36),([98,111,111,108]:b36),([115,116,114]:b36),([99,111,109,112]:b36)]:List (b36)),(([([105,110,116]:b36),([98,111,111,108]:b36),([115,116,114]:b36),([99,111,109,112]:b36)]:List (b36)).length:Int),a,()),(b,((),(0:Int),(0:Int),(0:Int),(0:Int),(0:Int),()),c.1.1,()))
 |.c70 a b=>mkI 70 (((),(),(),()),(a,((),(0:Int),(0:Int),(0:Int),(0:Int),(0:Int),()),b.1.1,()))
 |.c71 a b=>mkI 71 ((a,b,()),())
 |.c72 a=>mkI 72 ((a,()),())
 |.c73 a b c d=>mkI 73 (((),(),(),(),d,()),(a,((),(0:Int),(0:Int),(0:Int),(0:Int),(0:Int),()),b.1.1,c.1.1,()))
 |.c74 a b c d=>mkI 74 (((),(),(),(),d,()),(a,((),(0:Int),(0:Int),(0:Int),(0:Int),(0:Int),()),b.1.1,c.1.1,()))
 |.c75 a b=>mkI 75 ((a,b,()),())
 |.c76 a=>mkI 76 ((a,()),())
 |.c77 a b c=>mkI 77 (((),(),c,a,()),(b,((),(0:Int),(0:Int),(0:Int),(0:Int),(0:Int),()),()))
 |.c78 a b c=>mkI 78 (((),(),c,a,()),(b,((),(0:Int),(0:Int),(0:Int),(0:Int),(0:Int),()),()))
 |.c79 a b=>mkI 79 (((),(),b,()),(a,((),(0:Int),(0:Int),(0:Int),(0:Int),(0:Int),()),()))
 |.c80 a=>mkI 80 ((a,()),())
 |.c81 a b=>mkI 81 (((),(),(),([]:List d7),(),()),(a,((),(0:Int),(0:Int),(0:Int),(0:Int),(0:Int),()),b.1.1,(i6.mk a.L (if(w64 ((a.L.length:Int)-1))<(w64 (a.I+1))then(w64 ((a.L.length:Int)-1))else(w64 (a.I+1))) a.Js a.F),()))
 |.c82 a b=>mkI 82 (((),(),(),([]:List d7),(),()),(a,((),(0:Int),(0:Int),(0:Int),(0:Int),(0:Int),()),b.1.1,(i6.mk a.L (if(w64 ((a.L.length:Int)-1))<(w64 (a.I+1))then(w64 ((a.L.length:Int)-1))else(w64 (a.I+1))) a.Js a.F),()))
 |.c83 a=>mkI 83 (((),(),()),(a,((),(0:Int),(0:Int),(0:Int),(0:Int),(0:Int),()),()))
 |.c84 a=>mkI 84 ((a,()),())
 |.c85 a b=>mkI 85 (((),(),a,()),(b,((),(0:Int),(0:Int),(0:Int),(0:Int),(0:Int),()),()))
 |.c86 a b=>mkI 86 (((),(),a,()),(b,((),(0:Int),(0:Int),(0:Int),(0:Int),(0:Int),()),()))
 |.c87 a b=>mkI 87 (((),(),a,()),(b,((),(0:Int),(0:Int),(0:Int),(0:Int),(0:Int),()),()))
 |.c88 a=>mkI 88 ((a,()),())
 |.c89 a b=>mkI 89 (((),(),(),()),(a,((),(0:Int),(0:Int),(0:Int),(0:Int),(0:Int),()),b.1.1,()))
 |.c90 a=>mkI 90 ((a,()),())
 |.c91 a b=>mkI 91 ((a,b,()),())
 |.c92 a b c d e=>mkI 92 ((a,(),(),b,e.1.1,e.1.2.1,c,()),(d,((),(0:Int),(0:Int),(0:Int),(0:Int),(0:Int),()),()))
 |.c93 a b c d e f=>mkI 93 ((a,(),(),b,d.1.1,d.1.2.1,c,(d.1.1.length:Int),e,()),(f,((),(0:Int),(0:Int),(0:Int),(0:Int),(0:Int),()),()))
 |.c94 a b c d e=>mkI 94 ((a,(),(),b,e.1.1,e.1.2.1,c,()),(d,((),(0:Int),(0:Int),(0:Int),(0:Int),(0:Int),()),()))
 |.c95 a b=>mkI 95 (((),(),a,()),(b,((),(0:Int),(0:Int),(0:Int),(0:Int),(0:Int),()),()))
 |.c96 a=>mkI 96 ((a,()),())
 |.c97 a b c=>mkI 97 (((),(),(),c,()),(((),(0:Int),(0:Int),(0:Int),(0:Int),(0:Int),()),a.1.1,b,()))
 |.c98 a b c=>mkI 98 (((),(),(),a,()),(((),(0:Int),(0:Int),(0:Int),(0:Int),(0:Int),()),b.1.1,c,()))
 |.c99 a b=>mkI 99 (((),(),(),a.1.1,()),(a.1.2.1,((),(0:Int),(0:Int),(0:Int),(0:Int),(0:Int),()),b.1.1,()))
 |.c100 a b=>mkI 100 (((),(),(),a.1.1,()),(a.1.2.1,((),(0:Int),(0:Int),(0:Int),(0:Int),(0:Int),()),b.1.1,()))
 |.c101 a b c=>mkI 101 (((),(),(),a.1.1,()),(b,((),(0:Int),(0:Int),(0:Int),(0:Int),(0:Int),()),c.1.1,()))
 |.c102 a b c=>mkI 102 (((),(),(),a.1.1,b.Ks,()),(a.1.2.1,((),(0:Int),(0:Int),(0:Int),(0:Int),(0:Int),()),c.1.1,()))
 |.c103 a=>mkI 103 ((a,()),())
 |.c104 a b c=>mkI 104 (((),(),(),c,()),(a,((),(0:Int),(0:Int),(0:Int),(0:Int),(0:Int),()),b.1.1,()))
 |.c105 a b c=>mkI 105 (((),(),(),c,()),(a,((),(0:Int),(0:Int),(0:Int),(0:Int),(0:Int),()),b.1.1,()))
 |.c106 a=>mkI 106 ((a,()),())
 |.c107 a b c d e=>mkI 107 (((),(),(),(),e,a,()),(b,((),(0:Int),(0:Int),(0:Int),(0:Int),(0:Int),()),c.1.1,d.1.1,()))
 |.c108 a b c d e=>mkI 108 (((),(),(),(),e,a,()),(b,((),(0:Int),(0:Int),(0:Int),(0:Int),(0:Int),()),c.1.1,d.1.1,()))
 |.c109 a b c d e=>mkI 109 (((),(),(),(),e,a,()),(b,((),(0:Int),(0:Int),(0:Int),(0:Int),(0:Int),()),c.1.1,d.1.1,()))
 |.c110 a b c d e f=>mkI 110 (((),(),(),(),e,a,f,()),(b,((),(0:Int),(0:Int),(0:Int),(0:Int),(0:Int),()),c.1.1,d.1.1,()))
 |.c111 a=>mkI 111 ((a,()),())
 |.c112 a b=>mkI 112 (((),(),b,()),(a,((),(0:Int),(0:Int),(0:Int),(0:Int),(0:Int),()),()))
 |.c113 a b c=>mkI 113 (((),(),b,c,()),(a,((),(0:Int),(0:Int),(0:Int),(0:Int),(0:Int),()),()))
 |.c114 a b=>mkI 114 (((),(),b,()),(a,((),(0:Int),(0:Int),(0:Int),(0:Int),(0:Int),()),()))
 |.c115 a b=>mkI 115 ((a,b,()),())
 |.c116 a b=>mkI 116 ((a,(),(),()),(b,(x8.mk 0 0 0),()))
 |.c117 a=>mkI 117 ((a,()),())
 |.c118 a b=>mkI 118 ((a,b,()),())
 |.c119 a b c d=>mkI 119 ((a,b,d,c,()),())
 |.c120 a=>mkI 120 ((a,()),())
 |.c121 a b=>mkI 121 ((a,b,()),())
 |.c122 a b c d=>mkI 122 ((a,(w64 ((w64 (b+1))+c.Cs)),d,()),())
 |.c123 a b c=>mkI 123 (((w64 ((w64 (a+1))+b.Cs)),c,()),())
 |.c124 a=>mkI 124 ((a,()),())
 |.c125 a b=>mkI 125 ((a,b,()),())
 |.c126 a b=>mkI 126 ((a,b,()),())
 |.c127 a=>mkI 127 ((a,()),())
 |.c128 a=>mkI 128 ((a,()),())
 |.c129 a=>mkI 129 ((a,()),())
 |.c130 a=>mkI 130 (((),()),(a,()))
 |.c131 a=>mkI 131 (((),()),(a,()))
 |.c132 a=>mkI 132 ((a,()),())
 |.c133 a=>mkI 133 (((),()),(a,()))
 |.c134 a=>mkI 134 (((),()),(a,()))
 |.c135 a=>mkI 135 (((),()),(a,()))
 |.c136=>mkI 136 ((),())
 |.c137 a b=>mkI 137 ((a,b,()),())
 |.c138 a b c=>mkI 138 ((a,b,c,()),())
 |.c139=>mkI 139 ((),())
 |.c140 a b=>mkI 140 ((a,b,()),())
 |.c141 a b c d e=>mkI 141 ((a,b,c.1.1,e,(c.1.1.length:Int),d,()),())
 |.c142 a b c d=>mkI 142 ((a,b,c.1.1,d,()),())
 |.c143 a b c d=>mkI 143 ((a,b,(y6 c),(),()),(d,()))
 |.c144 a=>mkI 144 ((a,()),())
 |.c145 a b=>mkI 145 ((a,(a.length:Int),b,()),())
 |.c146=>mkI 146 ((),())
 |.c147 a=>mkI 147 ((a,()),())
 |.c148 a b=>mkI 148 ((a,b,()),())
 |.c149 a b c=>mkI 149 ((a,(),(b.P.As.length:Int),c,()),(b,()))
 |.c150=>mkI 150 ((),())
 |.c151 a b=>mkI 151 ((a,b,()),())
 |.c152 a b c d e=>mkI 152 ((a,b,e,c.1.1,(c.1.1.length:Int),d,()),())
 |.c153 a=>mkI 153 ((a,()),())
 |.c154 a b c=>mkI 154 ((a,b,c,()),())
 |.c155 a b c d=>mkI 155 ((a,b,c,(b.length:Int),d,()),())
 |.c156=>mkI 156 ((),())
 |.c157 a=>mkI 157 ((a,()),())
 |.c158 a b c=>mkI 158 ((a,c,b,()),())
 |.c159 a=>mkI 159 ((a,()),())
 |.c160 a b c=>mkI 160 (((a.P.No,a.P.Ms,a.P.To,a.P.Rs,a.P.Hs,a.P.As,a.P.Ss,a.P.Vars,a.P.Ps,a.Rs,a.F.Code,a.F.Ls,a.F.Id,()),b,c,()),())
 |.c161 a b=>mkI 161 ((a,b,()),())
 |.c162 a b c d=>mkI 162 ((a,b,d,(a.length:Int),c,()),())
 |.c163 a b c=>mkI 163 ((a,b,c,()),())
 |.c164 a=>mkI 164 ((a,()),())
 |.c165 a b c=>mkI 165 ((a,b,c,()),())
 |.c166 a b c d=>mkI 166 ((a,b,(),(b.length:Int),c,()),(d,()))
 |.c167=>mkI 167 ((),())
 |.c168 a b c=>mkI 168 ((a,b,c,()),())
 |.c169 a b c d=>mkI 169 ((d,(w64 ((a.length:Int)-1)),b,c,()),())
 |.c170 a b=>mkI 170 ((b,a,()),())
 |.c171 a b c=>mkI 171 (((a.P.No,a.P.Ms,a.P.To,a.P.Rs,a.P.Hs,a.P.As,a.P.Ss,a.P.Vars,a.P.Ps,a.Rs,a.F.Code,a.F.Ls,a.F.Id,()),b,c,()),())
 |.c172 a b c=>mkI 172 (((a.P.No,a.P.Ms,a.P.To,a.P.Rs,a.P.Hs,a.P.As,a.P.Ss,a.P.Vars,a.P.Ps,a.Rs,a.F.Code,a.F.Ls,a.F.Id,()),b,c,()),())
 |.c173 a b=>mkI 173 (((a.P.No,a.P.Ms,a.P.To,a.P.Rs,a.P.Hs,a.P.As,a.P.Ss,a.P.Vars,a.P.Ps,a.Rs,a.F.Code,a.F.Ls,a.F.Id,()),b,()),())
 |.c174 a b c=>mkI 174 (((a.P.No,a.P.Ms,a.P.To,a.P.Rs,a.P.Hs,a.P.As,a.P.Ss,a.P.Vars,a.P.Ps,a.Rs,a.F.Code,a.F.Ls,a.F.Id,()),b,c,()),())
 |.c175 a=>mkI 175 (((a.P.No,a.P.Ms,a.P.To,a.P.Rs,a.P.Hs,a.P.As,a.P.Ss,a.P.Vars,a.P.Ps,a.Rs,a.F.Code,a.F.Ls,a.F.Id,()),()),())
 |.c176 a b c d=>mkI 176 (((),(),a.P.No,b.1.1,(b.1.1.length:Int),c,()),(d,((),(),(),(),(),(),(),(),(),(),(0:Int),(0:Int),(0:Int),()),()))
 |.c177 a b c d=>mkI 177 (((),(),a.P.No,b.1.1,c,(b.1.1.length:Int),c,()),(d,((),(),(),(),(),(),(),(),(),(),(0:Int),(0:Int),(0:Int),()),()))
 |.c178 a b c d=>mkI 178 (((),(),a.P.No,b.1.1,c,(b.1.1.length:Int),c,()),(d,((),(),(),(),(),(),(),(),(),(),(0:Int),(0:Int),(0:Int),()),()))
 |.c179 a b c=>mkI 179 (((),(),a.P.No,b.1.1,()),(c,((),(),(),(),(),(),(),(),(),(),(0:Int),(0:Int),(0:Int),()),()))
 |.c180 a b c d e=>mkI 180 (((),(),a.P.No,b.1.1,(b.1.1.length:Int),c,()),((d8.mk d.1.1.P e d.1.1.F),((),(),(),(),(),(),(),(),(),(),(0:Int),(0:Int),(0:Int),()),()))
 |.c181 a b c d=>mkI 181 (((),(),a.P.No,b.1.1,(b.1.1.length:Int),c,()),(d,((),(),(),(),(),(),(),(),(),(),(0:Int),(0:Int),(0:Int),()),()))
 |.c182 a b c d e f h j=>mkI 182 (((),(),a.P.No,b.1.1,c,d.1.1,e,(b.1.1.length:Int),f,(d.1.1.length:Int),h,()),(j,((),(),(),(),(),(),(),(),(),(),(0:Int),(0:Int),(0:Int),()),()))
 |.c183 a=>mkI 183 (((),(),()),(a,((),(),(),(),(),(),(),(),(),(),(0:Int),(0:Int),(0:Int),()),()))
 |.c184 a b c d e f h j=>mkI 184 (((),(),a.P.No,b.1.1,c,d.1.1,e,f,(b.1.1.length:Int),h,(d.1.1.length:Int),f,()),(j,((),(),(),(),(),(),(),(),(),(),(0:Int),(0:Int),(0:Int),()),()))
 |.c185 a b c d e f h j=>mkI 185 (((),(),a.P.No,b.1.1,c,d.1.1,e,f,(b.1.1.length:Int),h,(d.1.1.length:Int),f,()),(j,((),(),(),(),(),(),(),(),(),(),(0:Int),(0:Int),(0:Int),()),()))
 |.c186 a b c d e f h=>mkI 186 (((),(),a.P.No,b.1.1,c,d.1.1,e,(b.1.1.length:Int),f,()),(h,((),(),(),(),(),(),(),(),(),(),(0:Int),(0:Int),(0:Int),()),()))
 |.c187 a b c d e f h j k=>mkI 187 (((),(),a.P.No,b.1.1,c,d.1.1,e,(b.1.1.length:Int),f,(d.1.1.length:Int),h,()),((d8.mk (l7.mk j.1.1.P.No j.1.1.P.Ms j.1.1.P.To j.1.1.P.Rs k j.1.1.P.As j.1.1.P.Ss j.1.1.P.Vars j.1.1.P.Ps) j.1.1.Rs j.1.1.F),((),(),(),(),(),(),(),(),(),(),(0:Int),(0:Int),(0:Int),()),()))
 |.c188 a b c d e=>mkI 188 (((),(),a.P.No,b.1.1,(b.1.1.length:Int),c,()),((d8.mk (l7.mk d.P.No d.P.Ms d.P.To e d.P.Hs d.P.As d.P.Ss d.P.Vars d.P.Ps) d.Rs d.F),((),(),(),(),(),(),(),(),(),(),(0:Int),(0:Int),(0:Int),()),()))
 |.c189 a=>mkI 189 ((a,()),())
 |.c190 a b=>mkI 190 ((a,([([]:b36),([108,101,110]:b36),([116,101,120,116]:b36),([114,101]:b36),([105,109]:b36),([112,97,105,114]:b36),([99,104,114]:b36),([114,101,97,100]:b36),([114,97,110,100]:b36)]:List (b36)),(([([]:b36),([108,101,110]:b36),([116,101,120,116]:b36),([114,101]:b36),([105,109]:b36),([112,97,105,114]:b36),([99,104,114]:b36),([114,101,97,100]:b36),([114,97,110,100]:b36)]:List (b36)).length:Int),b,()),())
 |.c191=>mkI 191 ((),())
 |.c192 a b c=>mkI 192 (((a.P.No,a.P.Ms,a.P.To,a.P.Rs,a.P.Hs,a.P.As,a.P.Ss,a.P.Vars,a.P.Ps,a.Rs,a.F.Code,a.F.Ls,a.F.Id,()),b,c,()),())
 |.c193 a b c=>mkI 193 (((a.P.No,a.P.Ms,a.P.To,a.P.Rs,a.P.Hs,a.P.As,a.P.Ss,a.P.Vars,a.P.Ps,a.Rs,a.F.Code,a.F.Ls,a.F.Id,()),b,c,()),())
 |.c194 a b=>mkI 194 (((a.P.No,a.P.Ms,a.P.To,a.P.Rs,a.P.Hs,a.P.As,a.P.Ss,a.P.Vars,a.P.Ps,a.Rs,a.F.Code,a.F.Ls,a.F.Id,()),b,()),())
 |.c195 a=>mkI 195 (((a.P.No,a.P.Ms,a.P.To,a.P.Rs,a.P.Hs,a.P.As,a.P.Ss,a.P.Vars,a.P.Ps,a.Rs,a.F.Code,a.F.Ls,a.F.Id,()),()),())
 |.c196 a b c d=>mkI 196 (((),(),a.P.No,b.1.1,(b.1.1.length:Int),c,()),(d,((),(),(),(),(),(),(),(),(),(),(0:Int),(0:Int),(0:Int),()),()))
 |.c197 a b c d e f h j=>mkI 197 (((),(),a.P.No,b.1.1,c,d,e.1.1,(w64 ((e.1.1.length:Int)-2)),f,(b.1.1.length:Int),h,()),(j,((),(),(),(),(),(),(),(),(),(),(0:Int),(0:Int),(0:Int),()),()))
 |.c198 a b c d e f=>mkI 198 (((),(),a.P.No,b.1.1,c,d,(b.1.1.length:Int),e,()),(f,((),(),(),(),(),(),(),(),(),(),(0:Int),(0:Int),(0:Int),()),()))
 |.c199 a=>mkI 199 (((),(),()),(a,((),(),(),(),(),(),(),(),(),(),(0:Int),(0:Int),(0:Int),()),()))
 |.c200 a b c d e f h j=>mkI 200 (((),(),a.P.No,b.1.1,c,d,e.1.1,(w64 ((e.1.1.length:Int)-2)),f,(b.1.1.length:Int),h,()),(j,((),(),(),(),(),(),(),(),(),(),(0:Int),(0:Int),(0:Int),()),()))
 |.c201 a b c d e f h j=>mkI 201 (((),(),a.P.No,b.1.1,c,d,e.1.1,(w64 ((e.1.1.length:Int)-2)),f,(b.1.1.length:Int),h,()),(j,((),(),(),(),(),(),(),(),(),(),(0:Int),(0:Int),(0:Int),()),()))
 |.c202 a b c d e f h=>mkI 202 (((),(),a.P.No,b.1.1,c,d,e.1.1,(w64 ((e.1.1.length:Int)-2)),(b.1.1.length:Int),f,()),(h,((),(),(),(),(),(),(),(),(),(),(0:Int),(0:Int),(0:Int),()),()))
 |.c203 a b c d e f=>mkI 203 (((),(),a.P.No,b.1.1,c,d,(b.1.1.length:Int),e,()),(f,((),(),(),(),(),(),(),(),(),(),(0:Int),(0:Int),(0:Int),()),()))
 |.c204 a b c d e f h j=>mkI 204 (((),(),a.P.No,b.1.1,c,d,e.1.1,(w64 ((e.1.1.length:Int)-2)),f,(b.1.1.length:Int),h,()),(j.1.1,((),(),(),(),(),(),(),(),(),(),(0:Int),(0:Int),(0:Int),()),()))
 |.c205 a b c d e=>mkI 205 (((),(),a.P.No,b.1.1,(b.1.1.length:Int),c,()),((d8.mk (l7.mk d.1.1.P.No d.1.1.P.Ms d.1.1.P.To d.1.1.P.Rs d.1.1.P.Hs e d.1.1.P.Ss d.1.1.P.Vars d.1.1.P.Ps) d.1.1.Rs d.1.1.F),((),(),(),(),(),(),(),(),(),(),(0:Int),(0:Int),(0:Int),()),()))
 |.c206 a b c d e=>mkI 206 (((),(),a.P.No,b.1.1,c,d,(b.1.1.length:Int),c,()),(e,((),(),(),(),(),(),(),(),(),(),(0:Int),(0:Int),(0:Int),()),()))
 |.c207 a b c d e f h=>mkI 207 (((a.P.No,a.P.Ms,a.P.To,a.P.Rs,a.P.Hs,a.P.As,a.P.Ss,a.P.Vars,a.P.Ps,a.Rs,a.F.Code,a.F.Ls,a.F.Id,()),b,c,d,e,f,h,()),())
 |.c208 a b c=>mkI 208 (((a.P.No,a.P.Ms,a.P.To,a.P.Rs,a.P.Hs,a.P.As,a.P.Ss,a.P.Vars,a.P.Ps,a.Rs,a.F.Code,a.F.Ls,a.F.Id,()),b,c,()),())
 |.c209 a b c=>mkI 209 (((a.P.No,a.P.Ms,a.P.To,a.P.Rs,a.P.Hs,a.P.As,a.P.Ss,a.P.Vars,a.P.Ps,a.Rs,a.F.Code,a.F.Ls,a.F.Id,()),b,c,()),())
 |.c210 a b=>mkI 210 (((a.P.No,a.P.Ms,a.P.To,a.P.Rs,a.P.Hs,a.P.As,a.P.Ss,a.P.Vars,a.P.Ps,a.Rs,a.F.Code,a.F.Ls,a.F.Id,()),b,()),())
 |.c211 a b c d=>mkI 211 (((a.P.No,a.P.Ms,a.P.To,a.P.Rs,a.P.Hs,a.P.As,a.P.Ss,a.P.Vars,a.P.Ps,a.Rs,a.F.Code,a.F.Ls,a.F.Id,()),b,c,d,()),())
 |.c212 a b c d e=>mkI 212 ((a,b,c,(),(),d,()),(e,((),(),(),(),(),(),(),(),(),(),(0:Int),(0:Int),(0:Int),()),()))
 |.c213 a b c d e f h j=>mkI 213 ((a,b,c,(),(),d,(),e,(b.length:Int),f,()),(h,((),(),(),(),(),(),(),(),(),(),(0:Int),(0:Int),(0:Int),()),j,()))
 |.c214 a b c d e f=>mkI 214 ((a,b,c,(),(),d,e,()),(f,((),(),(),(),(),(),(),(),(),(),(0:Int),(0:Int),(0:Int),()),()))
 |.c215 a=>mkI 215 (((),(),()),(a,((),(),(),(),(),(),(),(),(),(),(0:Int),(0:Int),(0:Int),()),()))
 |.c216 a b c d e f=>mkI 216 ((a,b,c,(),(),d,e,()),(f,((),(),(),(),(),(),(),(),(),(),(0:Int),(0:Int),(0:Int),()),()))
 |.c217 a b c d e=>mkI 217 ((a,b,c,(),(),d,()),(e,((),(),(),(),(),(),(),(),(),(),(0:Int),(0:Int),(0:Int),()),()))
 |.c218 a b c d e=>mkI 218 (((a.P.No,a.P.Ms,a.P.To,a.P.Rs,a.P.Hs,a.P.As,a.P.Ss,a.P.Vars,a.P.Ps,a.Rs,a.F.Code,a.F.Ls,a.F.Id,()),b,c,d,e,()),())
 |.c219 a b c d e=>mkI 219 ((a,b,(),(),c.1.1,(c.1.1.length:Int),d,()),(e,((),(),(),(),(),(),(),(),(),(),(0:Int),(0:Int),(0:Int),()),()))
 |.c220 a b c d e f h j k=>mkI 220 ((a,b,c,d,(),(),(),(e.P.Ps.length:Int),f.1.1,(b.length:Int),h,()),(j,((),(),(),(),(),(),(),(),(),(),(0:Int),(0:Int),(0:Int),()),k,()))
 |.c221 a b c d e f h j=>mkI 221 ((a,b,c,d,(),(),(),(e.P.Ps.length:Int),f.1.1,()),(h,((),(),(),(),(),(),(),(),(),(),(0:Int),(0:Int),(0:Int),()),j,()))
 |.c222 a b=>mkI 222 ((a,(),(),()),(b,((),(),(),(),(),(),(),(),(),(),(0:Int),(0:Int),(0:Int),()),()))
 |.c223 a b c d e f h j=>mkI 223 ((a,b,c,d,(),(),(),(e.P.Ps.length:Int),f.1.1,()),(h,((),(),(),(),(),(),(),(),(),(),(0:Int),(0:Int),(0:Int),()),j,()))
 |.c224 a b c d e f h j=>mkI 224 ((a,b,c,d,(),(),(),(e.P.Ps.length:Int),f.1.1,()),(h,((),(),(),(),(),(),(),(),(),(),(0:Int),(0:Int),(0:Int),()),j,()))
 |.c225 a b c d=>mkI 225 (((a.P.No,a.P.Ms,a.P.To,a.P.Rs,a.P.Hs,a.P.As,a.P.Ss,a.P.Vars,a.P.Ps,a.Rs,a.F.Code,a.F.Ls,a.F.Id,()),b,c,d,()),())
 |.c226 a b c d e f=>mkI 226 ((a,b,c,(),(),d.1.1,(d.1.1.length:Int),e,()),(f,((),(),(),(),(),(),(),(),(),(),(0:Int),(0:Int),(0:Int),()),()))
 |.c227 a b c=>mkI 227 ((a,b,(),(),()),(c,((),(),(),(),(),(),(),(),(),(),(0:Int),(0:Int),(0:Int),()),()))
 |.c228 a b c d e=>mkI 228 ((a,b,(),(),e,(a.length:Int),c,()),(d,((),(),(),(),(),(),(),(),(),(),(0:Int),(0:Int),(0:Int),()),()))
 |.c229 a b=>mkI 229 (((),(),b,()),(a,((),(),(),(),(),(),(),(),(),(),(0:Int),(0:Int),(0:Int),()),()))
 |.c230 a b=>mkI 230 (((a.P.No,a.P.Ms,a.P.To,a.P.Rs,a.P.Hs,a.P.As,a.P.Ss,a.P.Vars,a.P.Ps,a.Rs,a.F.Code,a.F.Ls,a.F.Id,()),b,()),())
 |.c231 a b c d e=>mkI 231 ((a,(),(),b.1.1,(w64 ((b.1.1.length:Int)-2)),e,c,()),(d,((),(),(),(),(),(),(),(),(),(),(0:Int),(0:Int),(0:Int),()),()))
 |.c232 a b c d=>mkI 232 ((a,(),(),b.1.1,(w64 ((b.1.1.length:Int)-2)),d,()),(c,((),(),(),(),(),(),(),(),(),(),(0:Int),(0:Int),(0:Int),()),()))
 |.c233 a=>mkI 233 ((a,()),())
 |.c234 a b c=>mkI 234 (((),(),(),a,b,()),(((),(),(),(),(),(),(),(),(),()),(x8.mk 0 0 0),c,()))
 |.c235 a=>mkI 235 (((),(),(),()),(((),(),(),(),(),(),(),(),(),()),(x8.mk 0 0 0),a,()))
 |.c236 a b=>mkI 236 (((),(),(),a.1.1,()),(((),(),(),(),(),(),(),(),(),()),(x8.mk 0 0 0),b,()))
 |.c237 a=>mkI 237 (((),(),(),()),(((),(),(),(),(),(),(),(),(),()),(x8.mk 0 0 0),a,()))
 |.c238 a=>mkI 238 (((),(),(),()),(((),(),(),(),(),(),(),(),(),()),(x8.mk 0 0 0),a,()))
 |.c239 a b c=>mkI 239 ((a,b,c,()),())
 |.c240 a b c=>mkI 240 ((a,b,c,()),())
 |.c241 a b c=>mkI 241 ((a,b,c,()),())
 |.c242 a b c=>mkI 242 ((a,b,c,()),())
 |.c243 a=>mkI 243 ((a,()),())
 |.c244 a b=>mkI 244 ((a,b,()),())
 |.c245 a b c=>mkI 245 ((a,b,c,()),())
 |.c246 a b=>mkI 246 ((a,b,()),())
 |.c247 a b c d e=>mkI 247 ((a,(),(),b.1.1,e,(b.1.1.length:Int),c,()),(d,((),(),(),(),(),(),(),(),(),(),(),(),(0:Int),(0:Int),(0:Int),(0:Int),()),()))
 |.c248 a b c d=>mkI 248 ((a,(),(),c.1.1,d,()),(b,((),(),(),(),(),(),(),(),(),(),(),(),(0:Int),(0:Int),(0:Int),(0:Int),()),()))
 |.c249 a b c d e=>mkI 249 (((),(),b.1.1,e,a.1.1,a.1.2.1,(b.1.1.length:Int),c,()),(d,((),(),(),(),(),(),(),(),(),(),(),(),(0:Int),(0:Int),(0:Int),(0:Int),()),()))
 |.c250 a b c d e=>mkI 250 (((),(),a.1.1,e,(),(a.1.1.length:Int),b,()),(c,((),(),(),(),(),(),(),(),(),(),(),(),(0:Int),(0:Int),(0:Int),(0:Int),()),d,()))
 |.c251 a b=>mkI 251 (((),(),a.1.2.1,()),(b,((),(),(),(),(),(),(),(),(),(),(),(),(0:Int),(0:Int),(0:Int),(0:Int),()),()))
 |.c252 a b=>mkI 252 (((),(),(),()),(a,((),(),(),(),(),(),(),(),(),(),(),(),(0:Int),(0:Int),(0:Int),(0:Int),()),b,()))
 |.c253 a b c=>mkI 253 ((a,b,c,()),())
 |.c254 a b=>mkI 254 ((a,(),(),()),(b.1.2.1,((),(),(),(),(),(),(),(),(),(),(),(),(0:Int),(0:Int),(0:Int),(0:Int),()),()))
 |.c255 a b c d=>mkI 255 ((a,(),(),(),b,()),(c.1.2.1,((),(),(),(),(),(),(),(),(),(),(),(),(0:Int),(0:Int),(0:Int),(0:Int),()),d,()))
 |.c256 a b=>mkI 256 ((a,(),(),()),(b.1.2.1,((),(),(),(),(),(),(),(),(),(),(),(),(0:Int),(0:Int),(0:Int),(0:Int),()),()))
 |.c257 a b c d=>mkI 257 ((a,b,c,d,()),())
 |.c258 a b=>mkI 258 ((a,b,()),())
 |.c259 a b c d e=>mkI 259 ((a,b,(),c.1.1,d.1.1,()),(e,()))
 |.c260 a=>mkI 260 ((a,()),())
 |.c261 a b=>mkI 261 ((a,b,()),())
 |.c262=>mkI 262 ((),())
 |.c263 a b c=>mkI 263 ((a,b,c,()),())
 |.c264 a b=>mkI 264 ((a,b,()),())
 |.c265 a b c=>mkI 265 ((a,(),(),b,()),(c,((),(),(),(),(),(),(),(),(),(),(),(),(0:Int),(0:Int),(0:Int),(0:Int),()),()))
 |.c266 a b c d=>mkI 266 ((a,(),(),d.1.1,b,c.1.1,()),(c.1.2.1,((),(),(),(),(),(),(),(),(),(),(),(),(0:Int),(0:Int),(0:Int),(0:Int),()),()))
 |.c267 a b c d e=>mkI 267 ((a,(),(),e.1.1,b,c.1.1,d.1.1,()),(d.1.2.1,((),(),(),(),(),(),(),(),(),(),(),(),(0:Int),(0:Int),(0:Int),(0:Int),()),()))
 |.c268 a b c d e=>mkI 268 ((a,(),(),(),e.1.1,b.Ts,()),(c,((),(),(),(),(),(),(),(),(),(),(),(),(0:Int),(0:Int),(0:Int),(0:Int),()),d,()))
 |.c269 a b=>mkI 269 ((a,b,()),())
 |.c270 a b c d=>mkI 270 (((),d.1.1,a.1.1,(),b.1.1,()),(((),(),(),(),(),(),(),(),(),(),(),(),(0:Int),(0:Int),(0:Int),(0:Int),()),c,()))
 |.c271 a b c d=>mkI 271 (((),(),d.1.1,a,b,()),(c,((),(),(),(),(),(),(),(),(),(),(),(),(0:Int),(0:Int),(0:Int),(0:Int),()),()))
 |.c272 a b=>mkI 272 (((),(),b.1.1,()),(a,((),(),(),(),(),(),(),(),(),(),(),(),(0:Int),(0:Int),(0:Int),(0:Int),()),()))
 |.c273 a b=>mkI 273 (((),(),a,()),(b,((),(),(),(),(),(),(),(),(),(),(),(),(0:Int),(0:Int),(0:Int),(0:Int),()),()))
 |.c274 a b=>mkI 274 ((a,b,()),())
 |.c275 a b c d=>mkI 275 (((),(),b.1.1,a,(b.1.1.length:Int),c,()),(d,((),(),(),(),(),(),(),(),(),(),(),(),(0:Int),(0:Int),(0:Int),(0:Int),()),()))
 |.c276 a b=>mkI 276 (((),(),a,()),(b,((),(),(),(),(),(),(),(),(),(),(),(),(0:Int),(0:Int),(0:Int),(0:Int),()),()))
 |.c277 a=>mkI 277 ((a,()),())
 |.c278 a b c d=>mkI 278 ((a,(),(),(),(),(b.1.1.As.length:Int),c,()),(((),(),(),(),(),(),(),(),(),()),(x8.mk 0 0 0),b.1.1,d,()))
 |.c279 a b=>mkI 279 (((),(),(),(),()),(((),(),(),(),(),(),(),(),(),()),(x8.mk 0 0 0),a.1.1,b,()))
 |.c280 a=>mkI 280 ((a,()),())
 |.l16_source a=>mkI 281 ((a,()),())
 |.c282 a b=>mkI 282 (((),b,()),(a,()))
 |.c283 a b c d=>mkI 283 ((a,d,b.p_.No,c,()),(b,()))
 |.c284 a b=>mkI 284 ((b,()),(a,()))
 |.c285 a b c d=>mkI 285 (((),b,c,d,()),(a,()))
 |.c286 a=>mkI 286 ((a,()),())
 |.c287 a b=>mkI 287 (((),b,()),(a,()))
 |.c288 a b=>mkI 288 (((),b,()),(a,()))
 |.c289 a b c d=>mkI 289 (((),a,b,c,()),(d,()))
 |.c290 a b c=>mkI 290 (((),b,c,()),(a,()))
 |.c291 a b=>mkI 291 (((),b,()),(a,()))
 |.c292 a b c d e f h=>mkI 292 (((),a,(),(),b,c,d,()),(e,f,h,()))
 |.c293 a b c d=>mkI 293 (((),a,d.1.1,b,()),(c.2.1,()))
 |.c294 a b c=>mkI 294 (((),a,(),c.1.1,()),(b,c.2.1,()))
 |.c295 a b c d e=>mkI 295 (((),a,(),(),b,()),(c,d,e.2.1,()))
 |.c296 a b c d=>mkI 296 (((),a,(),(),()),(b,c,d,()))
 |.c297 a b c=>mkI 297 (((),b,c,()),(a,()))
 |.c298 a b c d e=>mkI 298 (((),a,b,c.1.1,(c.1.1.length:Int),d,()),(e,()))
 |.c299 a b c=>mkI 299 (((),a,b,()),(c,()))
 |.c300 a b=>mkI 300 (((),b,()),(a,()))
 |.c301 a b=>mkI 301 (((),a,()),(b,()))
 |.c302 a b=>mkI 302 (((),b,()),(a,()))
 |.c303 a b c=>mkI 303 (((),a.1.1,(a.1.1.length:Int),b,()),(c,()))
 |.c304 a=>mkI 304 ((a,()),())
 |.c305 a b c=>mkI 305 (((),(),a.As,(a.As.length:Int),b,()),(((),(),(),()),c,()))
 |.c306 a b c d e f=>mkI 306 (((),(),(),a.As,(a.As.length:Int),b,()),(((),(),(),()),(B3.mk c.2.1.from_ d.1.1 e.Es e.Ss f),c.2.1,()))
 |.c307 a=>mkI 307 (((),(),()),(((),(),(),()),a,()))
 |.c308 a b c d=>mkI 308 (((),(),a.As,(a.As.length:Int),b,()),(((),(),(),()),(v6.mk c.2.1.p_ (o9.mk c.2.1.c_.Qs d c.2.1.c_.Is) c.2.1.from_ c.2.1.texts_),()))
 |.c309 a b=>mkI 309 ((a,b,()),())
 |.l16_awake=>mkI 310 ((),())
 |.c311 a b=>mkI 311 ((a,b,()),())
 |.c312 a b c=>mkI 312 (((),(),(a.Qs.length:Int),b,()),(a,c,()))
 |.c313 a b=>mkI 313 (((),(),()),(a,b,()))
 |.c314 a b c=>mkI 314 (((),(),(a.As.length:Int),b,()),(a,c,()))
 |.c315 a b=>mkI 315 (((),(),()),(a,b,()))
 |.c316 a b c=>mkI 316 (((),(),(a.Is.length:Int),b,()),(a,c,()))
 |.c317=>mkI 317 ((),())
 |.c318 a b=>mkI 318 ((a,b,()),())
 |.c319 a b c d=>mkI 319 ((a,b,d,(a.length:Int),c,()),())
 |.c320 a b c d e f=>mkI 320 ((a,b,f,(),(a.length:Int),c,()),((i5.mk d.Op e d.Ls),()))
 |.c321 a=>mkI 321 ((a,()),())
 |.c322 a b c d=>mkI 322 ((a,b,d,(a.length:Int),c,()),())
 |.c323 a b=>mkI 323 ((a,b,()),())
 |.c324 a b c d=>mkI 324 ((a,b,c,d,()),())
 |.c325 a b=>mkI 325 ((a,b,()),())
 |.c326 a b c d=>mkI 326 ((a,(),(),d,(a.length:Int),b,()),(c,((),(),(),(),(),(),(),(),(),(),()),()))
 |.c327 a b=>mkI 327 (((),(),b,()),(a,((),(),(),(),(),(),(),(),(),(),()),()))
 |.c328 a b=>mkI 328 ((a,b,()),())
 |.c329 a b c=>mkI 329 (((),(),a.1.1,c,()),((B8.mk a.1.2.1.P b),((),(),(),(),(),(),(),(),(),(),()),()))
 |.c330 a b c d e=>mkI 330 ((a,(),(),(),c.1.1,b,(c.1.2.1.Is.length:Int),d,()),(c.1.2.1,((),(),(),(),(),(),(),(),(),(),()),e,()))
 |.c331 a b c d=>mkI 331 ((a,(),(),(),b,()),(c,((),(),(),(),(),(),(),(),(),(),()),d,()))
 |.c332 a b c d=>mkI 332 ((a,(),(),(),d.1.1,()),(b,((),(),(),(),(),(),(),(),(),(),()),c,()))
 |.c333 a b c d=>mkI 333 ((a,(),(),(),c.1.1,b,()),(c.1.2.1,((),(),(),(),(),(),(),(),(),(),()),d,()))
 |.c334 a b c d=>mkI 334 ((a,(),(),c.1.1,b,()),((B8.mk c.1.2.1.P d),((),(),(),(),(),(),(),(),(),(),()),()))
 |.c335 a b c d=>mkI 335 ((a,b,c,d,()),())
 |.c336 a b=>mkI 336 ((a,b,()),())
 |.c337 a b=>mkI 337 ((a,b,()),())
 |.c338 a b c d=>mkI 338 (((),(),d,a.1.1,(a.1.1.length:Int),b,()),(c,((),(),(),(),(),(),(),(),(),(),()),()))
 |.c339 a b=>mkI 339 (((),(),b,()),(a,((),(),(),(),(),(),(),(),(),(),()),()))
 |.c340 a=>mkI 340 ((a,()),())
 |.c341 a b c d e=>mkI 341 (((),(),(),(),(a.As.length:Int),b,()),(a,((),(),(),()),(d,e,(),()),c,()))
 |.c342 a b c d e f h j=>mkI 342 (((),(),(),(),e.1.1,(),(a.As.length:Int),b,()),(a,((),(),(),()),(d,j,(),()),c.1.2.1,(B3.mk (d.length:Int) (e.1.1.length:Int) f.Es f.Ss h),()))
 |.c343 a b c=>mkI 343 (((),(),(),()),(((),(),(),()),(b,c,(),()),a,()))
 |.c344 a b c d e=>mkI 344 (((),(),(),(),(a.As.length:Int),b,()),(a,((),(),(),()),(d,e,(),()),c.1.2.1,()))
 |.l16_GenCodes a=>mkI 345 ((a,()),())
theorem JC(c:Q_C):Bx tab P0 (YK c)=Q_T c:=by cases c<;>kernel_rfl
noncomputable def nU(g:Gt tab P0)(c:Q_C):Option (Q_T c):=Yi (g (YK c)) (JC c)
noncomputable def d5:(c:Q_C)→Option (Q_T c):=nU (H1 Q_B)
theorem ZH(c:Q_C):d5 c=nU (Q_B (H1 Q_B)) c:=JQ Q_q _ (JC c)
abbrev Q_g:=(i:Q_C)→Option (Q_T i)
noncomputable section
def BU(g:Q_g)(a:(b36))(b:Int):Option RT2:=g (.c0 a b)
def Cg(g:Q_g)(a:(b36))(b:Int)(c:Bool):Option RT2:=g (.c1 a b c)
def cH(g:Q_g)(a:(b36))(b:Int)(c:Bool)(d:UInt8):Option RT2:=g (.c2 a b c d)
def sN(g:Q_g)(a:(b36))(b:Int)(c:Bool)(d:UInt8):Option RT2:=g (.c3 a b c d)
def JY(g:Q_g)(a:Int):Option RT2:=g (.c4 a)
def US(g:Q_g)(a:(b36))(b:Int):b3Z:=g (.c5 a b)
def Qb(g:Q_g)(a:(b36))(b:Int)(c:Int)(d:Int)(e:Int):b3Z:=g (.c6 a b c d e)
def WL(g:Q_g)(a:Int)(b:Int):b3Z:=g (.c7 a b)
def Gl(g:Q_g)(a:Int):Option RT2:=g (.c8 a)
def Ze(g:Q_g)(a:Int):Option RT2:=g (.c9 a)
def Th(g:Q_g)(a:Int):Option RT2:=g (.c10 a)
abbrev sY(g:Q_g):Option RT2:=g (.c11)
def xG(g:Q_g)(a:(b36))(b:Int):Option RT2:=g (.c12 a b)
def jO(g:Q_g)(a:(b36))(b:Int):Option RT2:=g (.c13 a b)
def CL(g:Q_g)(a:Int):Option RT2:=g (.c14 a)
def DF(g:Q_g)(a:(b36)):Option RT0:=g (.c15 a)
def kM(g:Q_g)(a:(b36))(b:Int):Option RT0:=g (.c16 a b)
abbrev HC(g:Q_g):Option RT0:=g (.c17)
def YT(g:Q_g)(a:I4):Option RT8:=g (.c18 a)
def PO(g:Q_g)(a:Int):Option RT8:=g (.c19 a)
def NG(g:Q_g)(a:I4):Option RT2:=g (.c20 a)
def DB(g:Q_g)(a:(b36)):b3Z:=g (.c21 a)
def Zp(g:Q_g)(a:(b36))(b:(b36))(c:Int):b3Z:=g (.c22 a b c)
def aM(g:Q_g)(a:(b36))(b:(b36)):b3Z:=g (.c23 a b)
def Qr(g:Q_g)(a:(b36))(b:(b36)):b3Z:=g (.c24 a b)
def AP(g:Q_g)(a:(b36))(b:(b36)):b3Z:=g (.c25 a b)
def nX(g:Q_g)(a:(b36))(b:(b36))(c:Int)(d:Int):b3Z:=g (.c26 a b c d)
def oW(g:Q_g)(a:(b36))(b:(b36)):b3Z:=g (.c27 a b)
def kO(g:Q_g)(a:(b36))(b:(b36))(c:(b36)):b3Z:=g (.c28 a b c)
def OZ(g:Q_g)(a:(b36))(b:(b36))(c:Int):b3Z:=g (.c29 a b c)
def VF(g:Q_g)(a:(b36))(b:Int):b3X:=g (.c30 a b)
def kH(g:Q_g)(a:(b36))(b:Int)(c:Int):b3X:=g (.c31 a b c)
def lH(g:Q_g)(a:(b36))(b:Int)(c:Int):b3X:=g (.c32 a b c)
def aY(g:Q_g)(a:(b36))(b:Int)(c:Int)(d:RT2)(e:Int)(f:Int):b3X:=g (.c33 a b c d e f)
def bI(g:Q_g)(a:(b36))(b:Int)(c:Int)(d:RT2)(e:Int)(f:Int):b3X:=g (.c34 a b c d e f)
def rH(g:Q_g)(a:(b36))(b:Int)(c:Int)(d:RT2):b3X:=g (.c35 a b c d)
def lA(g:Q_g)(a:(b36))(b:Int)(c:Int)(d:RT2)(e:Int)(f:Int):b3X:=g (.c36 a b c d e f)
def Ut(g:Q_g)(a:Int):Option RT2:=g (.c37 a)
def fY(g:Q_g)(a:Int):Option RT2:=g (.c38 a)
def mQ(g:Q_g)(a:Int):Option RT2:=g (.c39 a)
abbrev kD(g:Q_g):Option RT2:=g (.c40)
def FY(g:Q_g)(a:(b36)):b33:=g (.c41 a)
def rM(g:Q_g)(a:(b36))(b:Int)(c:(List Int)):b33:=g (.c42 a b c)
def bR(g:Q_g)(a:(b36))(b:Int)(c:(List Int)):b33:=g (.c43 a b c)
def xJ(g:Q_g)(a:(b36))(b:Int)(c:Int)(d:(List Int)):b33:=g (.c44 a b c d)
def WG(g:Q_g)(a:(b36)):b33:=g (.c45 a)
def Jf(g:Q_g)(a:(b36))(b:Int)(c:(List Int)):b33:=g (.c46 a b c)
def XR(g:Q_g)(a:(b36))(b:Int)(c:(List Int)):b33:=g (.c47 a b c)
def Yu(g:Q_g)(a:(b36))(b:Int):b3X:=g (.c48 a b)
def Zz(g:Q_g)(a:(b36))(b:Int):b3X:=g (.c49 a b)
def Sq(g:Q_g)(a:(b36))(b:Int)(c:Int):b3X:=g (.c50 a b c)
def UF(g:Q_g)(a:(b36))(b:Int):b3X:=g (.c51 a b)
def oY(g:Q_g)(a:(b36))(b:Int)(c:Int):b3X:=g (.c52 a b c)
abbrev MI(g:Q_g):b3X:=g (.c53)
def tU(g:Q_g)(a:(b36)):Option Ja:=g (.c54 a)
def tX(g:Q_g)(a:(b36))(b:Int)(c:Int)(d:Int)(e:Int)(f:(List l6)):Option Ja:=g (.c55 a b c d e f)
def iV(g:Q_g)(a:(b36))(b:Int)(c:Int)(d:Int)(e:(List l6)):Option Ja:=g (.c56 a b c d e)
def Aw(g:Q_g)(a:i6):Option RT0:=g (.c57 a)
def T4(g:Q_g)(a:i6):Option RT5:=g (.c58 a)
def E7(g:Q_g)(a:i6)(b:(b36)):Option RT0:=g (.c59 a b)
def F7(g:Q_g)(a:Int)(b:l6)(c:(b36))(d:Int)(e:(List d7)):Option Tx:=g (.c60 a b c d e)
def De(g:Q_g)(a:i6)(b:Int):Option RT6:=g (.c61 a b)
def I3(g:Q_g)(a:i6)(b:(b36)):Option RT6:=g (.c62 a b)
def Ey(g:Q_g)(a:i6)(b:Int):Option J9:=g (.c63 a b)
def sP(g:Q_g)(a:i6)(b:RT5):Option J9:=g (.c64 a b)
def Ae(g:Q_g)(a:i6)(b:(b36)):Option RT6:=g (.c65 a b)
def oC(g:Q_g)(a:(b36))(b:i6):Option RT6:=g (.c66 a b)
def Bi(g:Q_g)(a:i6)(b:(b36)):Option RT6:=g (.c67 a b)
def Jx(g:Q_g)(a:i6):b3T:=g (.c68 a)
def nB(g:Q_g)(a:Int)(b:i6)(c:RT5):b3T:=g (.c69 a b c)
def BL(g:Q_g)(a:i6)(b:RT5):b3T:=g (.c70 a b)
def jJ(g:Q_g)(a:i6)(b:Int):b3T:=g (.c71 a b)
def DG(g:Q_g)(a:i6):b3T:=g (.c72 a)
def Zw(g:Q_g)(a:i6)(b:RT5)(c:J9)(d:(List d7)):b3T:=g (.c73 a b c d)
def nN(g:Q_g)(a:i6)(b:RT5)(c:J9)(d:(List d7)):b3T:=g (.c74 a b c d)
def Ax(g:Q_g)(a:(List d7))(b:(List d7)):Option Tx:=g (.c75 a b)
def IE(g:Q_g)(a:i6):b3T:=g (.c76 a)
def jB(g:Q_g)(a:Int)(b:i6)(c:(List d7)):b3T:=g (.c77 a b c)
def mD(g:Q_g)(a:Int)(b:i6)(c:(List d7)):b3T:=g (.c78 a b c)
def gJ(g:Q_g)(a:i6)(b:(List d7)):b3T:=g (.c79 a b)
def CA(g:Q_g)(a:i6):b3T:=g (.c80 a)
def Nd(g:Q_g)(a:i6)(b:RT5):b3T:=g (.c81 a b)
def Pp(g:Q_g)(a:i6)(b:RT5):b3T:=g (.c82 a b)
def FO(g:Q_g)(a:i6):b3T:=g (.c83 a)
def UU(g:Q_g)(a:i6):b3T:=g (.c84 a)
def Qx(g:Q_g)(a:(List d7))(b:i6):b3T:=g (.c85 a b)
def dJ(g:Q_g)(a:(List d7))(b:i6):b3T:=g (.c86 a b)
def vK(g:Q_g)(a:(List d7))(b:i6):b3T:=g (.c87 a b)
def Nh(g:Q_g)(a:i6):b3T:=g (.c88 a)
def oS(g:Q_g)(a:i6)(b:RT5):b3T:=g (.c89 a b)
def zD(g:Q_g)(a:Int):Option V9:=g (.c90 a)
def L6(g:Q_g)(a:i6)(b:Int):b3T:=g (.c91 a b)
def oB(g:Q_g)(a:Int)(b:(List d7))(c:Bool)(d:i6)(e:V9):b3T:=g (.c92 a b c d e)
def Ih(g:Q_g)(a:Int)(b:(List d7))(c:Bool)(d:V9)(e:Int)(f:i6):b3T:=g (.c93 a b c d e f)
def yE(g:Q_g)(a:Int)(b:(List d7))(c:Bool)(d:i6)(e:V9):b3T:=g (.c94 a b c d e)
def LL(g:Q_g)(a:(List d7))(b:i6):b3T:=g (.c95 a b)
def Mf(g:Q_g)(a:i6):b3T:=g (.c96 a)
def uH(g:Q_g)(a:RT5)(b:i6)(c:(List d7)):b3T:=g (.c97 a b c)
def EH(g:Q_g)(a:(List d7))(b:RT5)(c:i6):b3T:=g (.c98 a b c)
def Ue(g:Q_g)(a:o5)(b:RT5):b3T:=g (.c99 a b)
def iX(g:Q_g)(a:o5)(b:RT5):b3T:=g (.c100 a b)
def Qw(g:Q_g)(a:o5)(b:i6)(c:RT5):b3T:=g (.c101 a b c)
def dB(g:Q_g)(a:o5)(b:d7)(c:RT5):b3T:=g (.c102 a b c)
def Fb(g:Q_g)(a:i6):b3T:=g (.c103 a)
def tA(g:Q_g)(a:i6)(b:RT5)(c:(List d7)):b3T:=g (.c104 a b c)
def rO(g:Q_g)(a:i6)(b:RT5)(c:(List d7)):b3T:=g (.c105 a b c)
def EB(g:Q_g)(a:i6):b3T:=g (.c106 a)
def sL(g:Q_g)(a:Int)(b:i6)(c:RT5)(d:J9)(e:(List d7)):b3T:=g (.c107 a b c d e)
def aF(g:Q_g)(a:Int)(b:i6)(c:RT5)(d:J9)(e:(List d7)):b3T:=g (.c108 a b c d e)
def Zn(g:Q_g)(a:Int)(b:i6)(c:RT5)(d:J9)(e:(List d7)):b3T:=g (.c109 a b c d e)
def gM(g:Q_g)(a:Int)(b:i6)(c:RT5)(d:J9)(e:(List d7))(f:(List d7)):b3T:=g (.c110 a b c d e f)
def YE(g:Q_g)(a:i6):b3T:=g (.c111 a)
def jV(g:Q_g)(a:i6)(b:(List d7)):b3T:=g (.c112 a b)
def Ul(g:Q_g)(a:i6)(b:(List d7))(c:(List d7)):b3T:=g (.c113 a b c)
def Zg(g:Q_g)(a:i6)(b:(List d7)):b3T:=g (.c114 a b)
def zE(g:Q_g)(a:(List d7))(b:i6):Option Jv:=g (.c115 a b)
def dX(g:Q_g)(a:(List d7))(b:i6):Option Jv:=g (.c116 a b)
def oI(g:Q_g)(a:(b36)):Option Jv:=g (.c117 a)
def J7(g:Q_g)(a:(List d7))(b:Int):Option RT3:=g (.c118 a b)
def fV(g:Q_g)(a:(List d7))(b:Int)(c:Int)(d:(List Int)):Option RT3:=g (.c119 a b c d)
def GY(g:Q_g)(a:(List Int)):Option RT3:=g (.c120 a)
def Pe(g:Q_g)(a:(List d7))(b:Int):Option RT2:=g (.c121 a b)
def nM(g:Q_g)(a:(List d7))(b:Int)(c:d7)(d:Int):Option RT2:=g (.c122 a b c d)
def uJ(g:Q_g)(a:Int)(b:d7)(c:Int):Option RT2:=g (.c123 a b c)
def fJ(g:Q_g)(a:(List d7)):Option RT0:=g (.c124 a)
def pU(g:Q_g)(a:(b36))(b:Int):Option RT0:=g (.c125 a b)
def Zb(g:Q_g)(a:(b36))(b:Int):Option RT0:=g (.c126 a b)
def yF(g:Q_g)(a:(b36)):Option RT0:=g (.c127 a)
def bZ(g:Q_g)(a:(b36)):Option RT0:=g (.c128 a)
def DQ(g:Q_g)(a:d7):Option RT0:=g (.c129 a)
def nS(g:Q_g)(a:d7):Option RT0:=g (.c130 a)
def Gw(g:Q_g)(a:d7):Option RT0:=g (.c131 a)
def DJ(g:Q_g)(a:d7):Option RT2:=g (.c132 a)
def oX(g:Q_g)(a:d7):Option RT2:=g (.c133 a)
def sO(g:Q_g)(a:d7):Option RT2:=g (.c134 a)
def lQ(g:Q_g)(a:d7):Option RT2:=g (.c135 a)
abbrev TL(g:Q_g):Option RT2:=g (.c136)
def Lv(g:Q_g)(a:(b36))(b:Int):Option RT0:=g (.c137 a b)
def aW(g:Q_g)(a:(b36))(b:Int)(c:Int):Option RT0:=g (.c138 a b c)
abbrev RJ(g:Q_g):Option RT0:=g (.c139)
def zY(g:Q_g)(a:(List d7))(b:Int):Option RT0:=g (.c140 a b)
def Xt(g:Q_g)(a:(List d7))(b:Int)(c:RT3)(d:Int)(e:(List Int)):Option RT0:=g (.c141 a b c d e)
def DP(g:Q_g)(a:(List d7))(b:Int)(c:RT3)(d:(List Int)):Option RT0:=g (.c142 a b c d)
def cC(g:Q_g)(a:(List d7))(b:Int)(c:(List Int))(d:d7):Option RT0:=g (.c143 a b c d)
def pE(g:Q_g)(a:(List d7)):Option RT0:=g (.c144 a)
def kA(g:Q_g)(a:(List d7))(b:Int):Option RT0:=g (.c145 a b)
abbrev IA(g:Q_g):Option RT0:=g (.c146)
def N6(g:Q_g)(a:d8):Option RT0:=g (.c147 a)
def sM(g:Q_g)(a:d8)(b:(b36)):Option RT2:=g (.c148 a b)
def pO(g:Q_g)(a:(b36))(b:d8)(c:Int):Option RT2:=g (.c149 a b c)
abbrev KG(g:Q_g):Option RT2:=g (.c150)
def bQ(g:Q_g)(a:(List d7))(b:Int):Option RT3:=g (.c151 a b)
def Xv(g:Q_g)(a:(List d7))(b:Int)(c:RT3)(d:Int)(e:(List Int)):Option RT3:=g (.c152 a b c d e)
def SU(g:Q_g)(a:(List Int)):Option RT3:=g (.c153 a)
def Mg(g:Q_g)(a:(List d7))(b:(List Int))(c:(b36)):Option RT0:=g (.c154 a b c)
def Zl(g:Q_g)(a:(List d7))(b:(List Int))(c:(b36))(d:Int):Option RT0:=g (.c155 a b c d)
abbrev PF(g:Q_g):Option RT0:=g (.c156)
def DX(g:Q_g)(a:Int):Option Kw:=g (.c157 a)
def aZ(g:Q_g)(a:Int)(b:Int)(c:(List o4)):Option Kw:=g (.c158 a b c)
def uW(g:Q_g)(a:(List o4)):Option Kw:=g (.c159 a)
def Gh(g:Q_g)(a:d8)(b:Int)(c:i8):b3S:=g (.c160 a b c)
def Jo(g:Q_g)(a:(List o4))(b:Int):b35:=g (.c161 a b)
def Vl(g:Q_g)(a:(List o4))(b:Int)(c:Int)(d:(List o4)):b35:=g (.c162 a b c d)
def SR(g:Q_g)(a:(List o4))(b:Int)(c:(List o4)):b35:=g (.c163 a b c)
def EG(g:Q_g)(a:(List d7)):Option RT0:=g (.c164 a)
def EE(g:Q_g)(a:(List o4))(b:(List (b36)))(c:d7):Option RT2:=g (.c165 a b c)
def oQ(g:Q_g)(a:(List o4))(b:(List (b36)))(c:Int)(d:d7):Option RT2:=g (.c166 a b c d)
abbrev OC(g:Q_g):Option RT2:=g (.c167)
def Qd(g:Q_g)(a:(List o4))(b:(List (b36)))(c:(List d7)):b35:=g (.c168 a b c)
def wG(g:Q_g)(a:(List d7))(b:Int)(c:Int)(d:(List o4)):b35:=g (.c169 a b c d)
def UZ(g:Q_g)(a:Int)(b:(List o4)):b35:=g (.c170 a b)
def Vp(g:Q_g)(a:d8)(b:Int)(c:i8):b3S:=g (.c171 a b c)
def Vn(g:Q_g)(a:d8)(b:Int)(c:Int):b3S:=g (.c172 a b c)
def qR(g:Q_g)(a:d8)(b:Int):Option O2:=g (.c173 a b)
def dT(g:Q_g)(a:d8)(b:Int)(c:Int):b3S:=g (.c174 a b c)
def BE(g:Q_g)(a:d8):b3S:=g (.c175 a)
def Rr(g:Q_g)(a:d8)(b:RT3)(c:Int)(d:d8):b3S:=g (.c176 a b c d)
def hO(g:Q_g)(a:d8)(b:RT3)(c:Int)(d:d8):b3S:=g (.c177 a b c d)
def dG(g:Q_g)(a:d8)(b:RT3)(c:Int)(d:d8):b3S:=g (.c178 a b c d)
def Qt(g:Q_g)(a:d8)(b:RT3)(c:d8):b3S:=g (.c179 a b c)
def LF(g:Q_g)(a:d8)(b:RT3)(c:Int)(d:l9)(e:(List (b36))):b3S:=g (.c180 a b c d e)
def tF(g:Q_g)(a:d8)(b:RT3)(c:Int)(d:d8):b3S:=g (.c181 a b c d)
def Pj(g:Q_g)(a:d8)(b:RT3)(c:Int)(d:RT3)(e:Int)(f:Int)(h:Int)(j:d8):b3S:=g (.c182 a b c d e f h j)
def TF(g:Q_g)(a:d8):b3S:=g (.c183 a)
def Sz(g:Q_g)(a:d8)(b:RT3)(c:Int)(d:RT3)(e:Int)(f:Int)(h:Int)(j:d8):b3S:=g (.c184 a b c d e f h j)
def Ym(g:Q_g)(a:d8)(b:RT3)(c:Int)(d:RT3)(e:Int)(f:Int)(h:Int)(j:d8):b3S:=g (.c185 a b c d e f h j)
def Yk(g:Q_g)(a:d8)(b:RT3)(c:Int)(d:RT3)(e:Int)(f:Int)(h:d8):b3S:=g (.c186 a b c d e f h)
def HE(g:Q_g)(a:d8)(b:RT3)(c:Int)(d:RT3)(e:Int)(f:Int)(h:Int)(j:l9)(k:(List R0)):b3S:=g (.c187 a b c d e f h j k)
def KN(g:Q_g)(a:d8)(b:RT3)(c:Int)(d:d8)(e:(List N3)):b3S:=g (.c188 a b c d e)
def lE(g:Q_g)(a:(b36)):Option RT2:=g (.c189 a)
def iD(g:Q_g)(a:(b36))(b:Int):Option RT2:=g (.c190 a b)
abbrev KP(g:Q_g):Option RT2:=g (.c191)
def Pa(g:Q_g)(a:d8)(b:Int)(c:i8):b3S:=g (.c192 a b c)
def Hg(g:Q_g)(a:d8)(b:Int)(c:Int):b3S:=g (.c193 a b c)
def Yr(g:Q_g)(a:d8)(b:Int):Option O2:=g (.c194 a b)
def vW(g:Q_g)(a:d8):b3S:=g (.c195 a)
def We(g:Q_g)(a:d8)(b:RT3)(c:Int)(d:d8):b3S:=g (.c196 a b c d)
def Me(g:Q_g)(a:d8)(b:RT3)(c:Int)(d:Int)(e:RT3)(f:Int)(h:Int)(j:d8):b3S:=g (.c197 a b c d e f h j)
def qN(g:Q_g)(a:d8)(b:RT3)(c:Int)(d:Int)(e:Int)(f:d8):b3S:=g (.c198 a b c d e f)
def NB(g:Q_g)(a:d8):b3S:=g (.c199 a)
def Sm(g:Q_g)(a:d8)(b:RT3)(c:Int)(d:Int)(e:RT3)(f:Int)(h:Int)(j:d8):b3S:=g (.c200 a b c d e f h j)
def Wu(g:Q_g)(a:d8)(b:RT3)(c:Int)(d:Int)(e:RT3)(f:Int)(h:Int)(j:d8):b3S:=g (.c201 a b c d e f h j)
def Jj(g:Q_g)(a:d8)(b:RT3)(c:Int)(d:Int)(e:RT3)(f:Int)(h:d8):b3S:=g (.c202 a b c d e f h)
def pC(g:Q_g)(a:d8)(b:RT3)(c:Int)(d:Int)(e:Int)(f:d8):b3S:=g (.c203 a b c d e f)
def NC(g:Q_g)(a:d8)(b:RT3)(c:Int)(d:Int)(e:RT3)(f:Int)(h:Int)(j:l9):b3S:=g (.c204 a b c d e f h j)
def XQ(g:Q_g)(a:d8)(b:RT3)(c:Int)(d:l9)(e:(List u9)):b3S:=g (.c205 a b c d e)
def jP(g:Q_g)(a:d8)(b:RT3)(c:Int)(d:Int)(e:d8):b3S:=g (.c206 a b c d e)
def dK(g:Q_g)(a:d8)(b:Int)(c:(List w8))(d:(b36))(e:Int)(f:Int)(h:Int):b32:=g (.c207 a b c d e f h)
def Bh(g:Q_g)(a:d8)(b:Int)(c:Int):b3S:=g (.c208 a b c)
def Fd(g:Q_g)(a:d8)(b:Int)(c:i8):b3S:=g (.c209 a b c)
def Tc(g:Q_g)(a:d8)(b:Int):Option O2:=g (.c210 a b)
def rU(g:Q_g)(a:d8)(b:Int)(c:(List w8))(d:Int):b3S:=g (.c211 a b c d)
def Iu(g:Q_g)(a:Int)(b:(List w8))(c:Int)(d:Int)(e:d8):b3S:=g (.c212 a b c d e)
def Qa(g:Q_g)(a:Int)(b:(List w8))(c:Int)(d:Int)(e:Int)(f:Int)(h:d8)(j:d7):b3S:=g (.c213 a b c d e f h j)
def gS(g:Q_g)(a:Int)(b:(List w8))(c:Int)(d:Int)(e:Int)(f:d8):b3S:=g (.c214 a b c d e f)
def ND(g:Q_g)(a:d8):b3S:=g (.c215 a)
def FW(g:Q_g)(a:Int)(b:(List w8))(c:Int)(d:Int)(e:Int)(f:d8):b3S:=g (.c216 a b c d e f)
def Mh(g:Q_g)(a:Int)(b:(List w8))(c:Int)(d:Int)(e:d8):b3S:=g (.c217 a b c d e)
def ER(g:Q_g)(a:d8)(b:Int)(c:(List w8))(d:Int)(e:Int):b32:=g (.c218 a b c d e)
def Ox(g:Q_g)(a:Int)(b:(List w8))(c:RT3)(d:Int)(e:d8):b32:=g (.c219 a b c d e)
def Qh(g:Q_g)(a:Int)(b:(List w8))(c:Int)(d:Int)(e:d8)(f:O2)(h:Int)(j:d8)(k:d7):b32:=g (.c220 a b c d e f h j k)
def tN(g:Q_g)(a:Int)(b:(List w8))(c:Int)(d:Int)(e:d8)(f:O2)(h:d8)(j:d7):b32:=g (.c221 a b c d e f h j)
def PV(g:Q_g)(a:(List w8))(b:d8):b32:=g (.c222 a b)
def xI(g:Q_g)(a:Int)(b:(List w8))(c:Int)(d:Int)(e:d8)(f:O2)(h:d8)(j:d7):b32:=g (.c223 a b c d e f h j)
def kP(g:Q_g)(a:Int)(b:(List w8))(c:Int)(d:Int)(e:d8)(f:O2)(h:d8)(j:d7):b32:=g (.c224 a b c d e f h j)
def jF(g:Q_g)(a:d8)(b:Int)(c:(List w8))(d:Int):b3S:=g (.c225 a b c d)
def bN(g:Q_g)(a:Int)(b:(List w8))(c:Int)(d:RT3)(e:Int)(f:d8):b3S:=g (.c226 a b c d e f)
def CK(g:Q_g)(a:(List w8))(b:Int)(c:d8):b3S:=g (.c227 a b c)
def Wa(g:Q_g)(a:(List w8))(b:Int)(c:Int)(d:d8)(e:(List J1)):b3S:=g (.c228 a b c d e)
def YS(g:Q_g)(a:d8)(b:(List J1)):b3S:=g (.c229 a b)
def vS(g:Q_g)(a:d8)(b:Int):b3S:=g (.c230 a b)
def Yo(g:Q_g)(a:Int)(b:RT3)(c:Int)(d:d8)(e:(List w8)):b3S:=g (.c231 a b c d e)
def zC(g:Q_g)(a:Int)(b:RT3)(c:d8)(d:(List w8)):b3S:=g (.c232 a b c d)
def xL(g:Q_g)(a:(List d7)):b3Y:=g (.c233 a)
def Hh(g:Q_g)(a:Int)(b:Int)(c:d8):b3Y:=g (.c234 a b c)
def Kn(g:Q_g)(a:d8):b3Y:=g (.c235 a)
def rR(g:Q_g)(a:RT2)(b:d8):b3Y:=g (.c236 a b)
def mK(g:Q_g)(a:d8):b3Y:=g (.c237 a)
def Ug(g:Q_g)(a:d8):b3Y:=g (.c238 a)
def Em(g:Q_g)(a:i9)(b:Int)(c:Int):Option RT4:=g (.c239 a b c)
def J8(g:Q_g)(a:i9)(b:Bool)(c:Int):Option RT4:=g (.c240 a b c)
def CB(g:Q_g)(a:(List o4))(b:Int)(c:Int):Option RT0:=g (.c241 a b c)
def Al(g:Q_g)(a:i9)(b:Int)(c:Int):Option RT0:=g (.c242 a b c)
def DY(g:Q_g)(a:Int):Option Fo:=g (.c243 a)
def Ln(g:Q_g)(a:i9)(b:Int):Option RT2:=g (.c244 a b)
def xB(g:Q_g)(a:i9)(b:Int)(c:Int):Option RT0:=g (.c245 a b c)
def zT(g:Q_g)(a:i9)(b:Int):b3U:=g (.c246 a b)
def Yd(g:Q_g)(a:Int)(b:RT3)(c:Int)(d:i9)(e:(List Int)):b3U:=g (.c247 a b c d e)
def BG(g:Q_g)(a:Int)(b:i9)(c:RT3)(d:(List Int)):b3U:=g (.c248 a b c d)
def Vq(g:Q_g)(a:Fo)(b:RT3)(c:Int)(d:i9)(e:(List Int)):b3U:=g (.c249 a b c d e)
def Ql(g:Q_g)(a:RT3)(b:Int)(c:i9)(d:u9)(e:(List Int)):b3U:=g (.c250 a b c d e)
def EU(g:Q_g)(a:Fo)(b:i9):b3U:=g (.c251 a b)
def yU(g:Q_g)(a:i9)(b:u9):b3U:=g (.c252 a b)
def HU(g:Q_g)(a:i9)(b:Int)(c:Int):b3U:=g (.c253 a b c)
def fI(g:Q_g)(a:Int)(b:A6):b3U:=g (.c254 a b)
def Uj(g:Q_g)(a:Int)(b:Int)(c:A6)(d:N3):b3U:=g (.c255 a b c d)
def OM(g:Q_g)(a:Int)(b:A6):b3U:=g (.c256 a b)
def yN(g:Q_g)(a:i9)(b:Int)(c:Int)(d:Int):Option RT2:=g (.c257 a b c d)
def rB(g:Q_g)(a:Int)(b:Int):Option RT2:=g (.c258 a b)
def cA(g:Q_g)(a:Int)(b:Int)(c:RT2)(d:RT2)(e:i9):Option RT2:=g (.c259 a b c d e)
def eI(g:Q_g)(a:Int):Option RT2:=g (.c260 a)
def eU(g:Q_g)(a:Int)(b:Int):Option RT2:=g (.c261 a b)
abbrev Gf(g:Q_g):Option RT2:=g (.c262)
def uZ(g:Q_g)(a:i9)(b:Int)(c:Int):Option RT4:=g (.c263 a b c)
def R7(g:Q_g)(a:i9)(b:Int):b3U:=g (.c264 a b)
def J0(g:Q_g)(a:Int)(b:Int)(c:i9):b3U:=g (.c265 a b c)
def cD(g:Q_g)(a:Int)(b:Int)(c:A6)(d:RT3):b3U:=g (.c266 a b c d)
def jK(g:Q_g)(a:Int)(b:Int)(c:A6)(d:A6)(e:RT3):b3U:=g (.c267 a b c d e)
def xE(g:Q_g)(a:Int)(b:i8)(c:i9)(d:d7)(e:RT3):b3U:=g (.c268 a b c d e)
def Ht(g:Q_g)(a:i9)(b:Int):b34:=g (.c269 a b)
def Mp(g:Q_g)(a:A6)(b:A6)(c:i9)(d:RT3):b34:=g (.c270 a b c d)
def Pb(g:Q_g)(a:Bool)(b:Int)(c:i9)(d:RT3):b34:=g (.c271 a b c d)
def gW(g:Q_g)(a:i9)(b:RT3):b34:=g (.c272 a b)
def MP(g:Q_g)(a:Bool)(b:i9):b34:=g (.c273 a b)
def rJ(g:Q_g)(a:i9)(b:Int):b34:=g (.c274 a b)
def tR(g:Q_g)(a:Bool)(b:RT3)(c:Int)(d:i9):b34:=g (.c275 a b c d)
def VL(g:Q_g)(a:Bool)(b:i9):b34:=g (.c276 a b)
def FN(g:Q_g)(a:(List d7)):b3Y:=g (.c277 a)
def Hp(g:Q_g)(a:(List d7))(b:I7)(c:Int)(d:i9):b3Y:=g (.c278 a b c d)
def aA(g:Q_g)(a:I7)(b:i9):b3Y:=g (.c279 a b)
def aC(g:Q_g)(a:(b36)):b3Y:=g (.c280 a)
def AL(g:Q_g)(a:(b36)):Option zX:=g (.l16_source a)
def Ju(g:Q_g)(a:v6)(b:Int):Option N8:=g (.c282 a b)
def kS(g:Q_g)(a:Int)(b:v6)(c:Int)(d:(List Int)):Option N8:=g (.c283 a b c d)
def MQ(g:Q_g)(a:v6)(b:(List Int)):Option N8:=g (.c284 a b)
def Q8(g:Q_g)(a:v6)(b:Int)(c:Int)(d:Int):Option RT1:=g (.c285 a b c d)
def BR(g:Q_g)(a:v6):Option RT2:=g (.c286 a)
def Mj(g:Q_g)(a:v6)(b:Int):b3W:=g (.c287 a b)
def BD(g:Q_g)(a:v6)(b:(b36)):Option RT1:=g (.c288 a b)
def zU(g:Q_g)(a:(b36))(b:Int)(c:Bool)(d:v6):Option RT1:=g (.c289 a b c d)
def vJ(g:Q_g)(a:v6)(b:d7)(c:i8):Option uL:=g (.c290 a b c)
def X9(g:Q_g)(a:v6)(b:Int):b3W:=g (.c291 a b)
def Ui(g:Q_g)(a:Int)(b:(List Int))(c:Int)(d:Int)(e:d7)(f:i8)(h:v6):b3W:=g (.c292 a b c d e f h)
def nC(g:Q_g)(a:Int)(b:Int)(c:G4)(d:N8):b3W:=g (.c293 a b c d)
def cW(g:Q_g)(a:Int)(b:d7)(c:N8):b3W:=g (.c294 a b c)
def Ra(g:Q_g)(a:Int)(b:(List Int))(c:d7)(d:i8)(e:N8):b3W:=g (.c295 a b c d e)
def FF(g:Q_g)(a:Int)(b:d7)(c:i8)(d:v6):b3W:=g (.c296 a b c d)
def FT(g:Q_g)(a:v6)(b:Int)(c:(List Int)):b3W:=g (.c297 a b c)
def Ua(g:Q_g)(a:Int)(b:(List Int))(c:N8)(d:Int)(e:v6):b3W:=g (.c298 a b c d e)
def CU(g:Q_g)(a:Int)(b:(List Int))(c:v6):b3W:=g (.c299 a b c)
def uI(g:Q_g)(a:v6)(b:Int):b3W:=g (.c300 a b)
def vM(g:Q_g)(a:Int)(b:v6):b3W:=g (.c301 a b)
def Mv(g:Q_g)(a:v6)(b:Int):b3W:=g (.c302 a b)
def nL(g:Q_g)(a:N8)(b:Int)(c:v6):b3W:=g (.c303 a b c)
def gX(g:Q_g)(a:l7):b30:=g (.c304 a)
def Yp(g:Q_g)(a:l7)(b:Int)(c:v6):b30:=g (.c305 a b c)
def lM(g:Q_g)(a:l7)(b:Int)(c:RT1)(d:RT2)(e:u9)(f:Int):b30:=g (.c306 a b c d e f)
def aX(g:Q_g)(a:v6):b30:=g (.c307 a)
def GJ(g:Q_g)(a:l7)(b:Int)(c:RT1)(d:(List B3)):b30:=g (.c308 a b c d)
def b2x(g:Q_g)(a:o9)(b:Int):Option Rq:=g (.c309 a b)
abbrev wM(g:Q_g):Option RT0:=g (.l16_awake)
def DT(g:Q_g)(a:o9)(b:o9):Option RT0:=g (.c311 a b)
def gZ(g:Q_g)(a:o9)(b:Int)(c:o9):Option RT0:=g (.c312 a b c)
def OL(g:Q_g)(a:o9)(b:o9):Option RT0:=g (.c313 a b)
def uA(g:Q_g)(a:o9)(b:Int)(c:o9):Option RT0:=g (.c314 a b c)
def KA(g:Q_g)(a:o9)(b:o9):Option RT0:=g (.c315 a b)
def pP(g:Q_g)(a:o9)(b:Int)(c:o9):Option RT0:=g (.c316 a b c)
abbrev LK(g:Q_g):Option RT0:=g (.c317)
def CT(g:Q_g)(a:(List i5))(b:Int):b31:=g (.c318 a b)
def jC(g:Q_g)(a:(List i5))(b:Int)(c:Int)(d:(List i5)):b31:=g (.c319 a b c d)
def Te(g:Q_g)(a:(List i5))(b:Int)(c:Int)(d:i5)(e:Int)(f:(List i5)):b31:=g (.c320 a b c d e f)
def UX(g:Q_g)(a:(List i5)):b31:=g (.c321 a)
def OO(g:Q_g)(a:(List i5))(b:Int)(c:Int)(d:(List i5)):b31:=g (.c322 a b c d)
def E6(g:Q_g)(a:(List i5))(b:(List i5)):b31:=g (.c323 a b)
def G3(g:Q_g)(a:B8)(b:Int)(c:Int)(d:Int):b31:=g (.c324 a b c d)
def Ot(g:Q_g)(a:B8)(b:(List Int)):b3V:=g (.c325 a b)
def Ha(g:Q_g)(a:(List Int))(b:Int)(c:B8)(d:(List i5)):b3V:=g (.c326 a b c d)
def Yb(g:Q_g)(a:B8)(b:(List i5)):b3V:=g (.c327 a b)
def V5(g:Q_g)(a:B8)(b:Int):b3V:=g (.c328 a b)
def Q9(g:Q_g)(a:C4)(b:(List (b36)))(c:(List i5)):b3V:=g (.c329 a b c)
def Io(g:Q_g)(a:Int)(b:Int)(c:C4)(d:Int)(e:d7):b3V:=g (.c330 a b c d e)
def Wt(g:Q_g)(a:Int)(b:(List Int))(c:B8)(d:d7):b3V:=g (.c331 a b c d)
def nK(g:Q_g)(a:Int)(b:B8)(c:d7)(d:RT3):b3V:=g (.c332 a b c d)
def vL(g:Q_g)(a:Int)(b:Int)(c:C4)(d:d7):b3V:=g (.c333 a b c d)
def DS(g:Q_g)(a:Int)(b:Int)(c:C4)(d:(List (b36))):b3V:=g (.c334 a b c d)
def zV(g:Q_g)(a:B8)(b:Int)(c:(List Int))(d:(List i5)):b3V:=g (.c335 a b c d)
def Jh(g:Q_g)(a:B8)(b:Int):b3V:=g (.c336 a b)
def Px(g:Q_g)(a:B8)(b:Int):b3V:=g (.c337 a b)
def Jl(g:Q_g)(a:RT3)(b:Int)(c:B8)(d:(List i5)):b3V:=g (.c338 a b c d)
def Sg(g:Q_g)(a:B8)(b:(List i5)):b3V:=g (.c339 a b)
def xP(g:Q_g)(a:l7):b30:=g (.c340 a)
def Re(g:Q_g)(a:l7)(b:Int)(c:B8)(d:(List i5))(e:(List B3)):b30:=g (.c341 a b c d e)
def dH(g:Q_g)(a:l7)(b:Int)(c:C4)(d:(List i5))(e:R5)(f:u9)(h:Int)(j:(List B3)):b30:=g (.c342 a b c d e f h j)
def sQ(g:Q_g)(a:B8)(b:(List i5))(c:(List B3)):b30:=g (.c343 a b c)
def MG(g:Q_g)(a:l7)(b:Int)(c:C4)(d:(List i5))(e:(List B3)):b30:=g (.c344 a b c d e)
def AF(g:Q_g)(a:(b36)):Option RT0:=g (.l16_GenCodes a)
end
end
section
open Go.RowKit
set_option maxRecDepth 100000
set_option maxHeartbeats 4000000
noncomputable section
def Qb0(g:Q_g)(a:(b36))(b:Int):Option RT2:=
 Cg g a b false
def Qb1(g:Q_g)(a:(b36))(b:Int)(c:Bool):Option RT2:=
 (cond (decide (b<(a.length:Int))) ((f5 a b).bind fun d=>(cond (decide ((d.toNat:Int)=35)) (sN g a b true d) (sN g a b c d))) (JY g b))
def Qb2(g:Q_g)(a:(b36))(b:Int)(c:Bool)(d:UInt8):Option RT2:=
 (cond (!c) (cond (!(decide ((d.toNat:Int)=32))) (cond (!(decide ((d.toNat:Int)=9))) (cond (!(decide ((d.toNat:Int)=13))) (cond (!(decide ((d.toNat:Int)=10))) (some ((b,()),())) (Cg g a (w64 (b+1)) c)) (Cg g a (w64 (b+1)) c)) (Cg g a (w64 (b+1)) c)) (Cg g a (w64 (b+1)) c)) (Cg g a (w64 (b+1)) c))
def Qb3(g:Q_g)(a:(b36))(b:Int)(c:Bool)(d:UInt8):Option RT2:=
 (cond (decide ((d.toNat:Int)=10)) (cH g a b false d) (cH g a b c d))
def Qb4(g:Q_g)(a:Int):Option RT2:=
 (some ((a,()),()))
def Qb5(g:Q_g)(a:(b36))(b:Int):b3Z:=
 Qb g a b 1 1 0
def Qb6(g:Q_g)(a:(b36))(b:Int)(c:Int)(d:Int)(e:Int):b3Z:=
 (cond (decide (e<b)) ((f5 a e).bind fun f=>(cond (decide ((f.toNat:Int)=10)) (Qb g a b (w64 (c+1)) 1 (w64 (e+1))) (Qb g a b c (w64 (d+1)) (w64 (e+1))))) (WL g c d))
def Qb7(g:Q_g)(a:Int)(b:Int):b3Z:=
 (some ((a,b,()),()))
def Qb8(g:Q_g)(a:Int):Option RT2:=
 (cond (decide (a≥97)) (cond (decide (a≤122)) (some ((1,()),())) (cond (decide (a=95)) (some ((1,()),())) (Th g a))) (cond (decide (a=95)) (some ((1,()),())) (Th g a)))
def Qb9(g:Q_g)(a:Int):Option RT2:=
 (cond (decide (a≥48)) (cond (decide (a≤57)) (some ((3,()),())) (sY g)) (sY g))
def kT(g:Q_g)(a:Int):Option RT2:=
 (cond (decide (a≥65)) (cond (decide (a≤90)) (some ((2,()),())) (Ze g a)) (Ze g a))
def CH(g:Q_g):Option RT2:=
 (some ((0,()),()))
def Ro(g:Q_g)(a:(b36))(b:Int):Option RT2:=
 jO g a b
def Yf(g:Q_g)(a:(b36))(b:Int):Option RT2:=
 (cond (decide (b<(a.length:Int))) ((f5 a b).bind fun c=>((Gl g (c.toNat:Int)).bind fun d=>(cond (decide (d.1.1>0)) (jO g a (w64 (b+1))) (CL g b)))) (CL g b))
def Tb(g:Q_g)(a:Int):Option RT2:=
 (some ((a,()),()))
def eR(g:Q_g)(a:(b36)):Option RT0:=
 kM g a 0
def Tn(g:Q_g)(a:(b36))(b:Int):Option RT0:=
 (cond (decide (b<(([[114,101,99],[102,110],[118,97,114],[105,102],[101,108,115,101],[119,104,105,108,101],[114,101,116,117,114,110],[112,114,105,110,116],[116,114,117,101],[102,97,108,115,101],[110,105,108],[109,97,107,101],[105,110,116],[98,111,111,108],[115,116,114],[99,111,109,112]]:List (b36)).length:Int))) ((f5 ([[114,101,99],[102,110],[118,97,114],[105,102],[101,108,115,101],[119,104,105,108,101],[114,101,116,117,114,110],[112,114,105,110,116],[116,114,117,101],[102,97,108,115,101],[110,105,108],[109,97,107,101],[105,110,116],[98,111,111,108],[115,116,114],[99,111,109,112]]:List (b36)) b).bind fun c=>((([[114,101,99],[102,110],[118,97,114],[105,102],[101,108,115,101],[119,104,105,108,101],[114,101,116,117,114,110],[112,114,105,110,116],[116,114,117,101],[102,97,108,115,101],[110,105,108],[109,97,107,101],[105,110,116],[98,111,111,108],[115,116,114],[99,111,109,112]]:List (b36))[(Int.toNat b)]?).bind fun d=>(cond (decide (d=a)) (some ((true,()),())) (kM g a (w64 (b+1)))))) (HC g))
def gO(g:Q_g):Option RT0:=
 (some ((false,()),()))
def lV(g:Q_g)(a:I4):Option RT8:=
 (Rx a).bind fun r=>(some ((r,()),()):Option RT8)
def bT(g:Q_g)(a:Int):Option RT8:=
 (oG a).bind fun r=>(some ((r,()),()):Option RT8)
def cU(g:Q_g)(a:I4):Option RT2:=
 (Sv a).bind fun r=>(some ((r,()),()):Option RT2)
def eX(g:Q_g)(a:(b36)):b3Z:=
 (cond (decide ((a.length:Int)>0)) ((f5 a 0).bind fun b=>(cond (decide ((b.toNat:Int)=45)) ((okP (D2 1 (a.length:Int) (a.length:Int))).bind fun _=>Qr g a (y8 a 1 (a.length:Int))) (Qr g a a))) (Qr g a a))
def Wy(g:Q_g)(a:(b36))(b:(b36))(c:Int):b3Z:=
 (cond (decide (c<(b.length:Int))) ((f5 b c).bind fun d=>(cond (decide ((d.toNat:Int)<48)) (some ((0,2,()),())) ((f5 b c).bind fun e=>(cond (decide ((e.toNat:Int)>57)) (some ((0,2,()),())) (Zp g a b (w64 (c+1))))))) (AP g a b))
def rW(g:Q_g)(a:(b36))(b:(b36)):b3Z:=
 Zp g a b 0
def eY(g:Q_g)(a:(b36))(b:(b36)):b3Z:=
 (cond (decide ((b.length:Int)=0)) (some ((0,2,()),())) ((f5 b 0).bind fun c=>(cond (decide ((c.toNat:Int)=48)) (cond (decide ((a.length:Int)>1)) (some ((0,2,()),())) (aM g a b)) (aM g a b))))
def kU(g:Q_g)(a:(b36))(b:(b36)):b3Z:=
 (cond (decide ((a.length:Int)>(b.length:Int))) (kO g a b ([57,50,50,51,51,55,50,48,51,54,56,53,52,55,55,53,56,48,56]:b36)) (kO g a b ([57,50,50,51,51,55,50,48,51,54,56,53,52,55,55,53,56,48,55]:b36)))
def Ux(g:Q_g)(a:(b36))(b:(b36))(c:Int)(d:Int):b3Z:=
 (cond (decide (d<(b.length:Int))) ((f5 b d).bind fun e=>nX g a b (IntKind.wrap .u64 ((IntKind.wrap .u64 ((IntKind.wrap .u64 (c*10))+(IntKind.wrap .u64 (e.toNat:Int))))-48)) (w64 (d+1))) (OZ g a b c))
def gA(g:Q_g)(a:(b36))(b:(b36)):b3Z:=
 nX g a b 0 0
def rD(g:Q_g)(a:(b36))(b:(b36))(c:(b36)):b3Z:=
 (cond (decide ((b.length:Int)>(c.length:Int))) (some ((0,14,()),())) (cond (decide ((b.length:Int)=(c.length:Int))) (cond (!(Op.bytesLess b c||decide (b=c))) (some ((0,14,()),())) (oW g a b)) (oW g a b)))
def bX(g:Q_g)(a:(b36))(b:(b36))(c:Int):b3Z:=
 (cond (decide ((a.length:Int)>(b.length:Int))) ((PO g (w64 c)).bind fun d=>((YT g d.1.1).bind fun e=>((NG g e.1.1).bind fun f=>(some ((f.1.1,0,()),()))))) (some (((w64 c),0,()),())))
def bP(g:Q_g)(a:(b36))(b:Int):b3X:=
 kH g a b b
def Uz(g:Q_g)(a:(b36))(b:Int)(c:Int):b3X:=
 (cond (decide (c<(a.length:Int))) ((f5 a c).bind fun d=>((Gl g (d.toNat:Int)).bind fun e=>(cond (decide (e.1.1=3)) (kH g a b (w64 (c+1))) (lH g a b c)))) (lH g a b c))
def lX(g:Q_g)(a:(b36))(b:Int)(c:Int):b3X:=
 ((xG g a c).bind fun d=>(cond (decide (d.1.1=(w64 (c+1)))) ((f5 a c).bind fun e=>(cond (decide ((e.toNat:Int)=105)) (bI g a b c d 8388607 4) (rH g a b c d))) (rH g a b c d)))
def Sp(g:Q_g)(a:(b36))(b:Int)(c:Int)(d:RT2)(e:Int)(f:Int):b3X:=
 (cond (decide (b<(w64 (c-1)))) ((f5 a b).bind fun h=>(cond (decide ((h.toNat:Int)=48)) (aY g a (w64 (b+1)) c d e f) (lA g a b c d e f))) (lA g a b c d e f))
def cT(g:Q_g)(a:(b36))(b:Int)(c:Int)(d:RT2)(e:Int)(f:Int):b3X:=
 aY g a b c d e f
def pS(g:Q_g)(a:(b36))(b:Int)(c:Int)(d:RT2):b3X:=
 (cond (!(decide (d.1.1=c))) (some (((l6.mk 3 0 0 0 ([]:b36)),0,4,()),())) (bI g a b c d 9223372036854775807 3))
def bG(g:Q_g)(a:(b36))(b:Int)(c:Int)(d:RT2)(e:Int)(f:Int):b3X:=
 ((okP (D2 b c (a.length:Int))).bind fun _=>((DB g (y8 a b c)).bind fun h=>(cond (!(decide (h.1.2.1=0))) (some (((l6.mk f 0 0 0 ([]:b36)),0,14,()),())) (cond (decide (h.1.1>e)) (some (((l6.mk f 0 0 0 ([]:b36)),0,14,()),())) (some (((l6.mk f 0 0 h.1.1 ([]:b36)),d.1.1,0,()),()))))))
def nR(g:Q_g)(a:Int):Option RT2:=
 (cond (decide (a≥48)) (cond (decide (a≤57)) (some (((w64 ((w64 a)-48)),()),())) (mQ g a)) (mQ g a))
def iO(g:Q_g)(a:Int):Option RT2:=
 (cond (decide (a≥65)) (cond (decide (a≤70)) (some (((w64 ((w64 a)-55)),()),())) (kD g)) (kD g))
def gK(g:Q_g)(a:Int):Option RT2:=
 (cond (decide (a≥97)) (cond (decide (a≤102)) (some (((w64 ((w64 a)-87)),()),())) (fY g a)) (fY g a))
def zM(g:Q_g):Option RT2:=
 (some (((-1),()),()))
def dC(g:Q_g)(a:(b36)):b33:=
 (cond (decide ((a.length:Int)=0)) (some ((([]:b36),0,false,()),())) ((f5 a 0).bind fun b=>(cond (!(decide ((b.toNat:Int)=34))) (some ((([]:b36),0,false,()),())) (rM g a 1 ([]:List Int)))))
def mR(g:Q_g)(a:(b36))(b:Int)(c:(List Int)):b33:=
 (cond (decide (b<(a.length:Int))) ((f5 a b).bind fun d=>(cond (decide ((d.toNat:Int)<32)) (some ((([]:b36),b,false,()),())) (cond (decide ((d.toNat:Int)>126)) (some ((([]:b36),b,false,()),())) (cond (decide ((d.toNat:Int)=34)) ((Qz c).bind fun _=>(some (((y6 c),(w64 (b+1)),true,()),()))) (cond (!(decide ((d.toNat:Int)=92))) ((y9 1 c ([(d.toNat:Int)]:List Int)).bind fun e=>Jf g a b e) (cond (decide ((w64 (b+1))≥(a.length:Int))) (some ((([]:b36),(w64 (b+1)),false,()),())) ((f5 a (w64 (b+1))).bind fun f=>(cond (decide ((f.toNat:Int)=34)) (bR g a b c) (cond (decide ((f.toNat:Int)=92)) (bR g a b c) (cond (decide ((f.toNat:Int)=110)) ((y9 1 c ([10]:List Int)).bind fun h=>Jf g a (w64 (b+1)) h) (cond (decide ((f.toNat:Int)=116)) ((y9 1 c ([9]:List Int)).bind fun j=>Jf g a (w64 (b+1)) j) (cond (decide ((f.toNat:Int)=120)) (xJ g a b 1 c) (some ((([]:b36),(w64 (b+1)),false,()),())))))))))))))) (WG g a))
def rA(g:Q_g)(a:(b36))(b:Int)(c:(List Int)):b33:=
 ((f5 a (w64 (b+1))).bind fun d=>((y9 1 c ([(d.toNat:Int)]:List Int)).bind fun e=>Jf g a (w64 (b+1)) e))
def Pm(g:Q_g)(a:(b36))(b:Int)(c:Int)(d:(List Int)):b33:=
 (cond (decide (c≤2)) (cond (decide ((w64 ((w64 (b+1))+c))≥(a.length:Int))) (some ((([]:b36),(w64 ((w64 (b+1))+c)),false,()),())) ((f5 a (w64 ((w64 (b+1))+c))).bind fun e=>((Ut g (e.toNat:Int)).bind fun f=>(cond (decide (f.1.1<0)) (some ((([]:b36),(w64 ((w64 (b+1))+c)),false,()),())) (xJ g a b (w64 (c+1)) d))))) (XR g a b d))
def dW(g:Q_g)(a:(b36)):b33:=
 (some ((([]:b36),(a.length:Int),false,()),()))
def Yz(g:Q_g)(a:(b36))(b:Int)(c:(List Int)):b33:=
 rM g a (w64 (b+1)) c
def oH(g:Q_g)(a:(b36))(b:Int)(c:(List Int)):b33:=
 ((f5 a (w64 ((w64 (b+1))+1))).bind fun d=>((Ut g (d.toNat:Int)).bind fun e=>((f5 a (w64 ((w64 (b+1))+2))).bind fun f=>((Ut g (f.toNat:Int)).bind fun h=>((y9 1 c ([(IntKind.wrap .u8 (w64 ((w64 (e.1.1*16))+h.1.1)))]:List Int)).bind fun j=>Jf g a (w64 ((w64 (b+1))+2)) j)))))
def mO(g:Q_g)(a:(b36))(b:Int):b3X:=
 ((f5 a b).bind fun c=>((Gl g (c.toNat:Int)).bind fun d=>(cond (decide (d.1.1=1)) (Zz g a b) (cond (decide (d.1.1=2)) (Zz g a b) (cond (decide (d.1.1=3)) ((VF g a b).bind fun e=>(some ((e.1.1,e.1.2.1,e.1.2.2.1,()),()))) ((f5 a b).bind fun f=>(cond (decide ((f.toNat:Int)=34)) ((okP (D2 b (a.length:Int) (a.length:Int))).bind fun _=>((FY g (y8 a b (a.length:Int))).bind fun h=>(cond (!h.1.2.2.1) (some (((l6.mk 0 0 0 0 ([]:b36)),0,4,()),())) (some (((l6.mk 5 0 0 0 h.1.1),(w64 (b+h.1.2.1)),0,()),()))))) (Sq g a b 0))))))))
def qY(g:Q_g)(a:(b36))(b:Int):b3X:=
 ((xG g a b).bind fun c=>((okP (D2 b c.1.1 (a.length:Int))).bind fun _=>((f5 a b).bind fun d=>((Gl g (d.toNat:Int)).bind fun e=>(cond (decide (e.1.1=2)) (some (((l6.mk 2 0 0 0 (y8 a b c.1.1)),c.1.1,0,()),())) ((DF g (y8 a b c.1.1)).bind fun f=>(cond f.1.1 (some (((l6.mk 6 0 0 0 (y8 a b c.1.1)),c.1.1,0,()),())) (some (((l6.mk 1 0 0 0 (y8 a b c.1.1)),c.1.1,0,()),())))))))))
def Sc(g:Q_g)(a:(b36))(b:Int)(c:Int):b3X:=
 (cond (decide (c<(([[38,38],[124,124],[61,61],[33,61],[60,61],[62,61]]:List (b36)).length:Int))) (cond (decide ((w64 (b+2))≤(a.length:Int))) ((okP (D2 b (w64 (b+2)) (a.length:Int))).bind fun _=>((f5 ([[38,38],[124,124],[61,61],[33,61],[60,61],[62,61]]:List (b36)) c).bind fun d=>((([[38,38],[124,124],[61,61],[33,61],[60,61],[62,61]]:List (b36))[(Int.toNat c)]?).bind fun e=>(cond (decide ((y8 a b (w64 (b+2)))=e)) ((f5 ([[38,38],[124,124],[61,61],[33,61],[60,61],[62,61]]:List (b36)) c).bind fun f=>((([[38,38],[124,124],[61,61],[33,61],[60,61],[62,61]]:List (b36))[(Int.toNat c)]?).bind fun h=>(some (((l6.mk 7 0 0 0 h),(w64 (b+2)),0,()),())))) (Sq g a b (w64 (c+1))))))) (Sq g a b (w64 (c+1)))) (UF g a b))
def lU(g:Q_g)(a:(b36))(b:Int):b3X:=
 oY g a b 0
def Ri(g:Q_g)(a:(b36))(b:Int)(c:Int):b3X:=
 (cond (decide (c<(([43,45,42,47,37,60,62,33,61,40,41,123,125,91,93,44,59,58,46]:b36).length:Int))) ((f5 a b).bind fun d=>((f5 ([43,45,42,47,37,60,62,33,61,40,41,123,125,91,93,44,59,58,46]:b36) c).bind fun e=>(cond (decide ((d.toNat:Int)=(e.toNat:Int))) ((okP (D2 c (w64 (c+1)) (([43,45,42,47,37,60,62,33,61,40,41,123,125,91,93,44,59,58,46]:b36).length:Int))).bind fun _=>(some (((l6.mk 7 0 0 0 (y8 ([43,45,42,47,37,60,62,33,61,40,41,123,125,91,93,44,59,58,46]:b36) c (w64 (c+1)))),(w64 (b+1)),0,()),()))) (oY g a b (w64 (c+1)))))) (MI g))
def lK(g:Q_g):b3X:=
 (some (((l6.mk 0 0 0 0 ([]:b36)),0,4,()),()))
def sC(g:Q_g)(a:(b36)):Option Ja:=
 (cond (decide ((a.length:Int)>65536)) (some ((([]:List l6),(x8.mk 3 0 0),()),())) ((BU g a 0).bind fun b=>tX g a b.1.1 0 1 1 ([]:List l6)))
def eS(g:Q_g)(a:(b36))(b:Int)(c:Int)(d:Int)(e:Int)(f:(List l6)):Option Ja:=
 ((okP (D2 c (a.length:Int) (a.length:Int))).bind fun _=>((US g (y8 a c (a.length:Int)) (w64 (b-c))).bind fun h=>(cond (decide (h.1.1>1)) (iV g a b (w64 (d+(w64 (h.1.1-1)))) h.1.2.1 f) (iV g a b d (w64 (e+(w64 (h.1.2.1-1)))) f))))
def aR(g:Q_g)(a:(b36))(b:Int)(c:Int)(d:Int)(e:(List l6)):Option Ja:=
 (cond (decide (b≥(a.length:Int))) ((y9 48 e ([(l6.mk 8 c d 0 ([]:b36))]:List l6)).bind fun f=>(some ((f,(x8.mk 0 0 0),()),()))) ((Yu g a b).bind fun h=>(cond (!(decide (h.1.2.2.1=0))) (some ((([]:List l6),(x8.mk h.1.2.2.1 c d),()),())) ((y9 48 e ([(l6.mk h.1.1.Ks c d h.1.1.Ns h.1.1.Ds)]:List l6)).bind fun j=>((BU g a h.1.2.1).bind fun k=>tX g a k.1.1 b c d j)))))
def rY(g:Q_g)(a:i6):Option RT0:=
 (some (((!(decide (a.F.Code=0))),()),()))
def eG(g:Q_g)(a:i6):Option RT5:=
 ((f5 a.L a.I).bind fun b=>(some ((b,()),())))
def pK(g:Q_g)(a:i6)(b:(b36)):Option RT0:=
 ((T4 g a).bind fun c=>((Aw g a).bind fun d=>(cond (!d.1.1) (cond (decide (c.1.1.Ks=6)) (some (((decide (c.1.1.Ds=b)),()),())) (cond (decide (c.1.1.Ks=7)) (some (((decide (c.1.1.Ds=b)),()),())) (some ((false,()),())))) (some ((false,()),())))))
def rI(g:Q_g)(a:Int)(b:l6)(c:(b36))(d:Int)(e:(List d7)):Option Tx:=
 ((y9 56 ([(d7.mk a b.Ls b.Id (e.length:Int) d c)]:List d7) e).bind fun f=>(some ((f,()),())))
def kI(g:Q_g)(a:i6)(b:Int):Option RT6:=
 ((Aw g a).bind fun c=>(cond (!c.1.1) ((T4 g a).bind fun d=>((T4 g a).bind fun e=>(some (((i6.mk a.L a.I a.Js (x8.mk b d.1.1.Ls e.1.1.Id)),()),())))) (some ((a,()),()))))
def mB(g:Q_g)(a:i6)(b:(b36)):Option RT6:=
 ((E7 g a b).bind fun c=>(cond (!c.1.1) ((De g a 5).bind fun d=>(some ((d.1.1,()),()))) (some (((i6.mk a.L (w64 (a.I+1)) a.Js a.F),()),()))))
def nP(g:Q_g)(a:i6)(b:Int):Option J9:=
 ((T4 g a).bind fun c=>((Aw g a).bind fun d=>(cond d.1.1 (sP g a c) (cond (!(decide (c.1.1.Ks=b))) (sP g a c) (some ((c.1.1,(i6.mk a.L (w64 (a.I+1)) a.Js a.F),()),()))))))
def tM(g:Q_g)(a:i6)(b:RT5):Option J9:=
 ((De g a 5).bind fun c=>(some ((b.1.1,c.1.1,()),())))
def oL(g:Q_g)(a:i6)(b:(b36)):Option RT6:=
 ((E7 g a b).bind fun c=>(cond c.1.1 (cond (decide (a.Js≥40)) ((De g a 6).bind fun d=>(some ((d.1.1,()),()))) (oC g b a)) (oC g b a)))
def nH(g:Q_g)(a:(b36))(b:i6):Option RT6:=
 ((I3 g b a).bind fun c=>(some (((i6.mk c.1.1.L c.1.1.I (w64 (c.1.1.Js+1)) c.1.1.F),()),())))
def oT(g:Q_g)(a:i6)(b:(b36)):Option RT6:=
 ((I3 g a b).bind fun c=>(some (((i6.mk c.1.1.L c.1.1.I (w64 (c.1.1.Js-1)) c.1.1.F),()),())))
def jI(g:Q_g)(a:i6):b3T:=
 ((T4 g a).bind fun b=>nB g 0 a b)
def Rn(g:Q_g)(a:Int)(b:i6)(c:RT5):b3T:=
 (cond (decide (a<(([[105,110,116],[98,111,111,108],[115,116,114],[99,111,109,112]]:List (b36)).length:Int))) ((f5 ([[105,110,116],[98,111,111,108],[115,116,114],[99,111,109,112]]:List (b36)) a).bind fun d=>((([[105,110,116],[98,111,111,108],[115,116,114],[99,111,109,112]]:List (b36))[(Int.toNat a)]?).bind fun e=>((E7 g b e).bind fun f=>(cond f.1.1 ((F7 g (IntKind.wrap .u8 (w64 (15+a))) c.1.1 ([]:b36) 0 ([]:List d7)).bind fun h=>((f5 ([[105,110,116],[98,111,111,108],[115,116,114],[99,111,109,112]]:List (b36)) a).bind fun j=>((([[105,110,116],[98,111,111,108],[115,116,114],[99,111,109,112]]:List (b36))[(Int.toNat a)]?).bind fun k=>((I3 g b k).bind fun l=>(some ((h.1.1,l.1.1,()),())))))) (nB g (w64 (a+1)) b c))))) (BL g b c))
def iC(g:Q_g)(a:i6)(b:RT5):b3T:=
 ((E7 g a ([91]:b36)).bind fun c=>(cond c.1.1 ((Ae g a ([91]:b36)).bind fun d=>((Jx g d.1.1).bind fun e=>((F7 g 20 b.1.1 ([]:b36) 0 e.1.1).bind fun f=>((Bi g e.1.2.1 ([93]:b36)).bind fun h=>(some ((f.1.1,h.1.1,()),())))))) ((Ey g a 2).bind fun j=>((F7 g 19 j.1.1 j.1.1.Ds 0 ([]:List d7)).bind fun k=>(some ((k.1.1,j.1.2.1,()),()))))))
def nA(g:Q_g)(a:i6)(b:Int):b3T:=
 ((Ey g a 1).bind fun c=>((I3 g c.1.2.1 ([58]:b36)).bind fun d=>((Jx g d.1.1).bind fun e=>((F7 g b c.1.1 c.1.1.Ds 0 e.1.1).bind fun f=>(some ((f.1.1,e.1.2.1,()),()))))))
def aQ(g:Q_g)(a:i6):b3T:=
 ((T4 g a).bind fun b=>((I3 g a ([114,101,99]:b36)).bind fun c=>((Ey g c.1.1 2).bind fun d=>((Ae g d.1.2.1 ([123]:b36)).bind fun e=>Zw g e.1.1 b d ([]:List d7)))))
def dZ(g:Q_g)(a:i6)(b:RT5)(c:J9)(d:(List d7)):b3T:=
 ((Aw g a).bind fun e=>(cond (!e.1.1) ((E7 g a ([125]:b36)).bind fun f=>(cond (!f.1.1) ((jJ g a 3).bind fun h=>((I3 g h.1.2.1 ([59]:b36)).bind fun j=>((y9 56 d h.1.1).bind fun k=>Zw g j.1.1 b c k))) (nN g a b c d))) (nN g a b c d)))
def cO(g:Q_g)(a:i6)(b:RT5)(c:J9)(d:(List d7)):b3T:=
 ((F7 g 2 b.1.1 c.1.1.Ds 0 d).bind fun e=>((Bi g a ([125]:b36)).bind fun f=>(some ((e.1.1,f.1.1,()),()))))
def sK(g:Q_g)(a:(List d7))(b:(List d7)):Option Tx:=
 ((y9 56 ([]:List d7) a).bind fun c=>((y9 56 c b).bind fun d=>(some ((d,()),()))))
def gU(g:Q_g)(a:i6):b3T:=
 ((Ae g a ([40]:b36)).bind fun b=>jB g 0 b.1.1 ([]:List d7))
def pI(g:Q_g)(a:Int)(b:i6)(c:(List d7)):b3T:=
 ((Aw g b).bind fun d=>(cond (!d.1.1) ((E7 g b ([41]:b36)).bind fun e=>(cond (!e.1.1) (cond (decide (a>0)) ((I3 g b ([44]:b36)).bind fun f=>mD g a f.1.1 c) (mD g a b c)) (gJ g b c))) (gJ g b c)))
def nY(g:Q_g)(a:Int)(b:i6)(c:(List d7)):b3T:=
 ((L6 g b 1).bind fun d=>((y9 56 c d.1.1).bind fun e=>jB g (w64 (a+1)) d.1.2.1 e))
def lI(g:Q_g)(a:i6)(b:(List d7)):b3T:=
 ((Bi g a ([41]:b36)).bind fun c=>(some ((b,c.1.1,()),())))
def sF(g:Q_g)(a:i6):b3T:=
 ((T4 g a).bind fun b=>((Aw g a).bind fun c=>(cond c.1.1 (some ((([(d7.mk 25 0 0 0 0 ([]:b36))]:List d7),a,()),())) (cond (decide (b.1.1.Ks=3)) ((F7 g 21 b.1.1 ([]:b36) b.1.1.Ns ([]:List d7)).bind fun d=>(some ((d.1.1,(i6.mk a.L (if(w64 ((a.L.length:Int)-1))<(w64 (a.I+1))then(w64 ((a.L.length:Int)-1))else(w64 (a.I+1))) a.Js a.F),()),()))) (cond (decide (b.1.1.Ks=4)) ((F7 g 22 b.1.1 ([]:b36) b.1.1.Ns ([]:List d7)).bind fun e=>(some ((e.1.1,(i6.mk a.L (if(w64 ((a.L.length:Int)-1))<(w64 (a.I+1))then(w64 ((a.L.length:Int)-1))else(w64 (a.I+1))) a.Js a.F),()),()))) (cond (decide (b.1.1.Ks=5)) ((F7 g 23 b.1.1 b.1.1.Ds 0 ([]:List d7)).bind fun f=>(some ((f.1.1,(i6.mk a.L (if(w64 ((a.L.length:Int)-1))<(w64 (a.I+1))then(w64 ((a.L.length:Int)-1))else(w64 (a.I+1))) a.Js a.F),()),()))) ((E7 g a ([116,114,117,101]:b36)).bind fun h=>(cond h.1.1 ((F7 g 24 b.1.1 ([]:b36) 1 ([]:List d7)).bind fun j=>(some ((j.1.1,(i6.mk a.L (if(w64 ((a.L.length:Int)-1))<(w64 (a.I+1))then(w64 ((a.L.length:Int)-1))else(w64 (a.I+1))) a.Js a.F),()),()))) ((E7 g a ([102,97,108,115,101]:b36)).bind fun k=>(cond k.1.1 ((F7 g 24 b.1.1 ([]:b36) 0 ([]:List d7)).bind fun l=>(some ((l.1.1,(i6.mk a.L (if(w64 ((a.L.length:Int)-1))<(w64 (a.I+1))then(w64 ((a.L.length:Int)-1))else(w64 (a.I+1))) a.Js a.F),()),()))) ((E7 g a ([110,105,108]:b36)).bind fun m=>(cond m.1.1 ((F7 g 25 b.1.1 ([]:b36) 0 ([]:List d7)).bind fun n=>(some ((n.1.1,(i6.mk a.L (if(w64 ((a.L.length:Int)-1))<(w64 (a.I+1))then(w64 ((a.L.length:Int)-1))else(w64 (a.I+1))) a.Js a.F),()),()))) (cond (decide (b.1.1.Ks=1)) ((E7 g (i6.mk a.L (if(w64 ((a.L.length:Int)-1))<(w64 (a.I+1))then(w64 ((a.L.length:Int)-1))else(w64 (a.I+1))) a.Js a.F) ([40]:b36)).bind fun o=>(cond (!o.1.1) ((F7 g 26 b.1.1 b.1.1.Ds 0 ([]:List d7)).bind fun p=>(some ((p.1.1,(i6.mk a.L (if(w64 ((a.L.length:Int)-1))<(w64 (a.I+1))then(w64 ((a.L.length:Int)-1))else(w64 (a.I+1))) a.Js a.F),()),()))) (Pp g a b))) (Pp g a b))))))))))))))
def pY(g:Q_g)(a:i6)(b:RT5):b3T:=
 ((E7 g a ([109,97,107,101]:b36)).bind fun c=>(cond c.1.1 ((Ey g (i6.mk a.L (if(w64 ((a.L.length:Int)-1))<(w64 (a.I+1))then(w64 ((a.L.length:Int)-1))else(w64 (a.I+1))) a.Js a.F) 2).bind fun d=>((F7 g 19 d.1.1 d.1.1.Ds 0 ([]:List d7)).bind fun e=>((F7 g 32 b.1.1 ([]:b36) 0 e.1.1).bind fun f=>((Ae g d.1.2.1 ([40]:b36)).bind fun h=>((Bi g h.1.1 ([41]:b36)).bind fun j=>(some ((f.1.1,j.1.1,()),()))))))) (FO g a)))
def jH(g:Q_g)(a:i6)(b:RT5):b3T:=
 (cond (decide (b.1.1.Ks=1)) ((IE g (i6.mk a.L (if(w64 ((a.L.length:Int)-1))<(w64 (a.I+1))then(w64 ((a.L.length:Int)-1))else(w64 (a.I+1))) a.Js a.F)).bind fun c=>((F7 g 27 b.1.1 b.1.1.Ds 0 c.1.1).bind fun d=>(some ((d.1.1,c.1.2.1,()),())))) ((E7 g a ([40]:b36)).bind fun e=>(cond e.1.1 ((Ae g a ([40]:b36)).bind fun f=>((L6 g f.1.1 1).bind fun h=>((Bi g h.1.2.1 ([41]:b36)).bind fun j=>(some ((h.1.1,j.1.1,()),()))))) ((E7 g a ([109,97,107,101]:b36)).bind fun k=>(cond k.1.1 ((E7 g (i6.mk a.L (if(w64 ((a.L.length:Int)-1))<(w64 (a.I+1))then(w64 ((a.L.length:Int)-1))else(w64 (a.I+1))) a.Js a.F) ([91]:b36)).bind fun l=>(cond l.1.1 ((Jx g (i6.mk a.L (if(w64 ((a.L.length:Int)-1))<(w64 (a.I+1))then(w64 ((a.L.length:Int)-1))else(w64 (a.I+1))) a.Js a.F)).bind fun m=>((Ae g m.1.2.1 ([40]:b36)).bind fun n=>((L6 g n.1.1 1).bind fun o=>((Ax g m.1.1 o.1.1).bind fun p=>((F7 g 32 b.1.1 ([]:b36) 0 p.1.1).bind fun q=>((Bi g o.1.2.1 ([41]:b36)).bind fun s=>(some ((q.1.1,s.1.1,()),())))))))) (Nd g a b))) (Nd g a b))))))
def eO(g:Q_g)(a:i6):b3T:=
 ((De g a 5).bind fun b=>(some ((([(d7.mk 25 0 0 0 0 ([]:b36))]:List d7),b.1.1,()),())))
def mZ(g:Q_g)(a:i6):b3T:=
 ((CA g a).bind fun b=>Qx g b.1.1 b.1.2.1)
def nZ(g:Q_g)(a:(List d7))(b:i6):b3T:=
 ((E7 g b ([91]:b36)).bind fun c=>(cond c.1.1 (dJ g a b) ((E7 g b ([46]:b36)).bind fun d=>(cond d.1.1 (dJ g a b) (vK g a b)))))
def Zx(g:Q_g)(a:(List d7))(b:i6):b3T:=
 ((T4 g b).bind fun c=>(cond (decide (c.1.1.Ds=([91]:b36))) ((Ae g b ([91]:b36)).bind fun d=>((L6 g d.1.1 1).bind fun e=>((Bi g e.1.2.1 ([93]:b36)).bind fun f=>((Ax g a e.1.1).bind fun h=>((F7 g 28 c.1.1 ([]:b36) 0 h.1.1).bind fun j=>Qx g j.1.1 f.1.1))))) ((I3 g b ([46]:b36)).bind fun k=>((Ey g k.1.1 1).bind fun l=>((F7 g 29 c.1.1 l.1.1.Ds 0 a).bind fun m=>Qx g m.1.1 l.1.2.1)))))
def lF(g:Q_g)(a:(List d7))(b:i6):b3T:=
 (some ((a,b,()),()))
def sE(g:Q_g)(a:i6):b3T:=
 ((T4 g a).bind fun b=>((E7 g a ([45]:b36)).bind fun c=>(cond (!c.1.1) ((E7 g a ([33]:b36)).bind fun d=>(cond (!d.1.1) ((UU g a).bind fun e=>(some ((e.1.1,e.1.2.1,()),()))) (oS g a b))) (oS g a b))))
def pB(g:Q_g)(a:i6)(b:RT5):b3T:=
 ((Ae g a b.1.1.Ds).bind fun c=>((Nh g c.1.1).bind fun d=>(cond (decide (b.1.1.Ds=([45]:b36))) ((F7 g 30 b.1.1 ([]:b36) 12 d.1.1).bind fun e=>(some ((e.1.1,(i6.mk d.1.2.1.L d.1.2.1.I (w64 (d.1.2.1.Js-1)) d.1.2.1.F),()),()))) ((F7 g 30 b.1.1 ([]:b36) 13 d.1.1).bind fun f=>(some ((f.1.1,(i6.mk d.1.2.1.L d.1.2.1.I (w64 (d.1.2.1.Js-1)) d.1.2.1.F),()),()))))))
def aV(g:Q_g)(a:Int):Option V9:=
 (cond (decide (a=1)) (some ((([([124,124]:b36)]:List (b36)),([15]:List Int),()),())) (cond (decide (a=2)) (some ((([([38,38]:b36)]:List (b36)),([14]:List Int),()),())) (cond (decide (a=3)) (some ((([([61,61]:b36),([33,61]:b36)]:List (b36)),([6,7]:List Int),()),())) (cond (decide (a=4)) (some ((([([60]:b36),([60,61]:b36),([62]:b36),([62,61]:b36)]:List (b36)),([8,9,10,11]:List Int),()),())) (cond (decide (a=5)) (some ((([([43]:b36),([45]:b36)]:List (b36)),([1,2]:List Int),()),())) (some ((([([42]:b36),([47]:b36),([37]:b36)]:List (b36)),([3,4,5]:List Int),()),())))))))
def Rj(g:Q_g)(a:i6)(b:Int):b3T:=
 (cond (decide (b>6)) ((Nh g a).bind fun c=>(some ((c.1.1,c.1.2.1,()),()))) ((L6 g a (w64 (b+1))).bind fun d=>((zD g b).bind fun e=>oB g b d.1.1 true d.1.2.1 e)))
def Rt(g:Q_g)(a:Int)(b:(List d7))(c:Bool)(d:i6)(e:V9):b3T:=
 (cond c (Ih g a b false e 0 d) (LL g b d))
def Wv(g:Q_g)(a:Int)(b:(List d7))(c:Bool)(d:V9)(e:Int)(f:i6):b3T:=
 (cond (decide (e<(d.1.1.length:Int))) (cond (!c) ((f5 d.1.1 e).bind fun h=>((d.1.1[(Int.toNat e)]?).bind fun j=>((E7 g f j).bind fun k=>(cond k.1.1 ((T4 g f).bind fun l=>((f5 d.1.1 e).bind fun m=>((d.1.1[(Int.toNat e)]?).bind fun n=>((I3 g f n).bind fun o=>((L6 g o.1.1 (w64 (a+1))).bind fun p=>((f5 d.1.2.1 e).bind fun q=>((d.1.2.1[(Int.toNat e)]?).bind fun s=>((Ax g b p.1.1).bind fun t=>((F7 g 31 l.1.1 ([]:b36) s t.1.1).bind fun u=>Ih g a u.1.1 true d (w64 (e+1)) p.1.2.1))))))))) (Ih g a b c d (w64 (e+1)) f))))) (Ih g a b c d (w64 (e+1)) f)) (yE g a b c f d))
def dF(g:Q_g)(a:Int)(b:(List d7))(c:Bool)(d:i6)(e:V9):b3T:=
 (cond (decide (a=3)) (some ((b,d,()),())) (cond (decide (a=4)) (some ((b,d,()),())) (oB g a b c d e)))
def bL(g:Q_g)(a:(List d7))(b:i6):b3T:=
 (some ((a,b,()),()))
def Zr(g:Q_g)(a:i6):b3T:=
 ((T4 g a).bind fun b=>((E7 g a ([118,97,114]:b36)).bind fun c=>(cond c.1.1 ((I3 g a ([118,97,114]:b36)).bind fun d=>((Ey g d.1.1 1).bind fun e=>((I3 g e.1.2.1 ([58]:b36)).bind fun f=>((Jx g f.1.1).bind fun h=>((I3 g h.1.2.1 ([61]:b36)).bind fun j=>((L6 g j.1.1 1).bind fun k=>((Ax g h.1.1 k.1.1).bind fun l=>((F7 g 7 b.1.1 e.1.1.Ds 0 l.1.1).bind fun m=>((I3 g k.1.2.1 ([59]:b36)).bind fun n=>(some ((m.1.1,n.1.1,()),()))))))))))) ((E7 g a ([105,102]:b36)).bind fun o=>(cond o.1.1 ((I3 g a ([105,102]:b36)).bind fun p=>((L6 g p.1.1 1).bind fun q=>((Fb g q.1.2.1).bind fun s=>((Ax g q.1.1 s.1.1).bind fun t=>((E7 g s.1.2.1 ([101,108,115,101]:b36)).bind fun u=>(cond u.1.1 ((I3 g s.1.2.1 ([101,108,115,101]:b36)).bind fun v=>((Fb g v.1.1).bind fun w=>((Ax g t.1.1 w.1.1).bind fun y=>uH g b w.1.2.1 y.1.1))) (uH g b s.1.2.1 t.1.1))))))) ((E7 g a ([119,104,105,108,101]:b36)).bind fun z=>(cond z.1.1 ((I3 g a ([119,104,105,108,101]:b36)).bind fun a1=>((L6 g a1.1.1 1).bind fun b1=>((Fb g b1.1.2.1).bind fun c1=>((Ax g b1.1.1 c1.1.1).bind fun d1=>((F7 g 10 b.1.1 ([]:b36) 0 d1.1.1).bind fun e1=>(some ((e1.1.1,c1.1.2.1,()),()))))))) ((E7 g a ([114,101,116,117,114,110]:b36)).bind fun f1=>(cond f1.1.1 ((I3 g a ([114,101,116,117,114,110]:b36)).bind fun h1=>((E7 g h1.1.1 ([59]:b36)).bind fun j1=>(cond (!j1.1.1) ((L6 g h1.1.1 1).bind fun k1=>EH g k1.1.1 b k1.1.2.1) (EH g ([]:List d7) b h1.1.1)))) ((E7 g a ([112,114,105,110,116]:b36)).bind fun l1=>(cond l1.1.1 ((I3 g a ([112,114,105,110,116]:b36)).bind fun m1=>((L6 g m1.1.1 1).bind fun n1=>((F7 g 12 b.1.1 ([]:b36) 0 n1.1.1).bind fun o1=>((I3 g n1.1.2.1 ([59]:b36)).bind fun p1=>(some ((o1.1.1,p1.1.1,()),())))))) ((L6 g a 1).bind fun q1=>((f5 q1.1.1 0).bind fun s1=>((E7 g q1.1.2.1 ([61]:b36)).bind fun t1=>(cond t1.1.1 (cond (decide (s1.Ks=26)) (Ue g q1 b) (cond (decide (s1.Ks=28)) (Ue g q1 b) (cond (decide (s1.Ks=29)) (Ue g q1 b) (dB g q1 s1 b)))) (dB g q1 s1 b))))))))))))))))
def Sj(g:Q_g)(a:RT5)(b:i6)(c:(List d7)):b3T:=
 ((F7 g 9 a.1.1 ([]:b36) 0 c).bind fun d=>(some ((d.1.1,b,()),())))
def Wn(g:Q_g)(a:(List d7))(b:RT5)(c:i6):b3T:=
 ((F7 g 11 b.1.1 ([]:b36) 0 a).bind fun d=>((I3 g c ([59]:b36)).bind fun e=>(some ((d.1.1,e.1.1,()),()))))
def nT(g:Q_g)(a:o5)(b:RT5):b3T:=
 ((I3 g a.1.2.1 ([61]:b36)).bind fun c=>((L6 g c.1.1 1).bind fun d=>((Ax g a.1.1 d.1.1).bind fun e=>((F7 g 8 b.1.1 ([]:b36) 0 e.1.1).bind fun f=>((I3 g d.1.2.1 ([59]:b36)).bind fun h=>(some ((f.1.1,h.1.1,()),())))))))
def tH(g:Q_g)(a:o5)(b:RT5):b3T:=
 ((De g a.1.2.1 5).bind fun c=>Qw g a c.1.1 b)
def fH(g:Q_g)(a:o5)(b:i6)(c:RT5):b3T:=
 ((F7 g 13 c.1.1 ([]:b36) 0 a.1.1).bind fun d=>((I3 g b ([59]:b36)).bind fun e=>(some ((d.1.1,e.1.1,()),()))))
def rK(g:Q_g)(a:o5)(b:d7)(c:RT5):b3T:=
 ((E7 g a.1.2.1 ([61]:b36)).bind fun d=>(cond d.1.1 (iX g a c) ((E7 g a.1.2.1 ([59]:b36)).bind fun e=>(cond e.1.1 (cond (!(decide (b.Ks=27))) (iX g a c) (Qw g a a.1.2.1 c)) (Qw g a a.1.2.1 c)))))
def nW(g:Q_g)(a:i6):b3T:=
 ((T4 g a).bind fun b=>((Ae g a ([123]:b36)).bind fun c=>tA g c.1.1 b ([]:List d7)))
def iY(g:Q_g)(a:i6)(b:RT5)(c:(List d7)):b3T:=
 ((Aw g a).bind fun d=>(cond (!d.1.1) ((E7 g a ([125]:b36)).bind fun e=>(cond (!e.1.1) ((Mf g a).bind fun f=>((y9 56 c f.1.1).bind fun h=>tA g f.1.2.1 b h)) (rO g a b c))) (rO g a b c)))
def kL(g:Q_g)(a:i6)(b:RT5)(c:(List d7)):b3T:=
 ((F7 g 6 b.1.1 ([]:b36) 0 c).bind fun d=>((Bi g a ([125]:b36)).bind fun e=>(some ((d.1.1,e.1.1,()),()))))
def fN(g:Q_g)(a:i6):b3T:=
 ((T4 g a).bind fun b=>((I3 g a ([102,110]:b36)).bind fun c=>((Ey g c.1.1 1).bind fun d=>((Ae g d.1.2.1 ([40]:b36)).bind fun e=>sL g 0 e.1.1 b d ([]:List d7)))))
def oD(g:Q_g)(a:Int)(b:i6)(c:RT5)(d:J9)(e:(List d7)):b3T:=
 ((Aw g b).bind fun f=>(cond (!f.1.1) ((E7 g b ([41]:b36)).bind fun h=>(cond (!h.1.1) (cond (decide (a>0)) ((I3 g b ([44]:b36)).bind fun j=>aF g a j.1.1 c d e) (aF g a b c d e)) (Zn g a b c d e))) (Zn g a b c d e)))
def gQ(g:Q_g)(a:Int)(b:i6)(c:RT5)(d:J9)(e:(List d7)):b3T:=
 ((jJ g b 5).bind fun f=>((y9 56 e f.1.1).bind fun h=>sL g (w64 (a+1)) f.1.2.1 c d h))
def cV(g:Q_g)(a:Int)(b:i6)(c:RT5)(d:J9)(e:(List d7)):b3T:=
 ((Bi g b ([41]:b36)).bind fun f=>((E7 g f.1.1 ([58]:b36)).bind fun h=>(cond h.1.1 ((I3 g f.1.1 ([58]:b36)).bind fun j=>((Jx g j.1.1).bind fun k=>gM g a k.1.2.1 c d e k.1.1)) (gM g a f.1.1 c d e ([(d7.mk 14 0 0 0 0 ([]:b36))]:List d7)))))
def lG(g:Q_g)(a:Int)(b:i6)(c:RT5)(d:J9)(e:(List d7))(f:(List d7)):b3T:=
 ((Fb g b).bind fun h=>((Ax g e f).bind fun j=>((Ax g j.1.1 h.1.1).bind fun k=>((F7 g 4 c.1.1 d.1.1.Ds a k.1.1).bind fun l=>(some ((l.1.1,h.1.2.1,()),()))))))
def aJ(g:Q_g)(a:i6):b3T:=
 jV g a ([]:List d7)
def fO(g:Q_g)(a:i6)(b:(List d7)):b3T:=
 ((Aw g a).bind fun c=>(cond (!c.1.1) ((T4 g a).bind fun d=>(cond (!(decide (d.1.1.Ks=8))) ((E7 g a ([114,101,99]:b36)).bind fun e=>(cond e.1.1 ((DG g a).bind fun f=>Ul g f.1.2.1 b f.1.1) ((E7 g a ([102,110]:b36)).bind fun h=>(cond h.1.1 ((EB g a).bind fun j=>Ul g j.1.2.1 b j.1.1) ((De g a 5).bind fun k=>Ul g k.1.1 b ([]:List d7)))))) (Zg g a b))) (Zg g a b)))
def mA(g:Q_g)(a:i6)(b:(List d7))(c:(List d7)):b3T:=
 ((y9 56 b c).bind fun d=>jV g a d)
def iR(g:Q_g)(a:i6)(b:(List d7)):b3T:=
 ((F7 g 1 (l6.mk 0 1 1 0 ([]:b36)) ([]:b36) 0 b).bind fun c=>(some ((c.1.1,a,()),())))
def nQ(g:Q_g)(a:(List d7))(b:i6):Option Jv:=
 ((T4 g b).bind fun c=>(cond (!(decide (c.1.1.Ks=8))) ((De g b 5).bind fun d=>dX g a d.1.1) (dX g a b)))
def eH(g:Q_g)(a:(List d7))(b:i6):Option Jv:=
 ((Aw g b).bind fun c=>(cond c.1.1 (some ((([]:List d7),b.F,()),())) (some ((a,(x8.mk 0 0 0),()),()))))
def lP(g:Q_g)(a:(b36)):Option Jv:=
 ((tU g a).bind fun b=>(cond (!(decide (b.1.2.1.Code=0))) (some ((([]:List d7),b.1.2.1,()),())) ((YE g (i6.mk b.1.1 0 0 (x8.mk 0 0 0))).bind fun c=>((zE g c.1.1 c.1.2.1).bind fun d=>(some ((d.1.1,d.1.2.1,()),()))))))
def iU(g:Q_g)(a:(List d7))(b:Int):Option RT3:=
 fV g a b (w64 (b+1)) ([]:List Int)
def Uo(g:Q_g)(a:(List d7))(b:Int)(c:Int)(d:(List Int)):Option RT3:=
 ((f5 a b).bind fun e=>(cond (decide (c<(w64 ((w64 (b+1))+e.Cs)))) ((y9 8 d ([c]:List Int)).bind fun f=>((f5 a c).bind fun h=>fV g a b (w64 ((w64 (c+1))+h.Cs)) f)) (GY g d)))
def kF(g:Q_g)(a:(List Int)):Option RT3:=
 (some ((a,()),()))
def dL(g:Q_g)(a:(List d7))(b:Int):Option RT2:=
 (cond (decide (b≥(a.length:Int))) (some (((-1),()),())) ((f5 a b).bind fun c=>(cond (decide (c.Cs<0)) (some (((-1),()),())) ((f5 a b).bind fun d=>(cond (decide (d.Cs>(w64 ((w64 ((a.length:Int)-1))-b)))) (some (((-1),()),())) ((f5 a b).bind fun e=>nM g a b e (w64 (b+1))))))))
def Vu(g:Q_g)(a:(List d7))(b:Int)(c:d7)(d:Int):Option RT2:=
 (cond (decide (d≥0)) (cond (decide (d<(w64 ((w64 (b+1))+c.Cs)))) ((Pe g a d).bind fun e=>nM g a b c e.1.1) (uJ g b c d)) (uJ g b c d))
def Tt(g:Q_g)(a:Int)(b:d7)(c:Int):Option RT2:=
 (cond (!(decide (c=(w64 ((w64 (a+1))+b.Cs))))) (some (((-1),()),())) (some (((w64 ((w64 (a+1))+b.Cs)),()),())))
def lC(g:Q_g)(a:(List d7)):Option RT0:=
 (cond (decide ((a.length:Int)>0)) ((Pe g a 0).bind fun b=>(some (((decide (b.1.1=(a.length:Int))),()),()))) (some ((false,()),())))
def bY(g:Q_g)(a:(b36))(b:Int):Option RT0:=
 (cond (decide ((a.length:Int)=0)) (some ((false,()),())) ((f5 a 0).bind fun c=>(cond (decide ((c.toNat:Int)≥48)) ((f5 a 0).bind fun d=>(cond (decide ((d.toNat:Int)≤57)) (some ((false,()),())) (Zb g a b))) (Zb g a b))))
def Za(g:Q_g)(a:(b36))(b:Int):Option RT0:=
 ((Yu g a 0).bind fun c=>(cond (decide (c.1.2.2.1=0)) (cond (decide (c.1.2.1=(a.length:Int))) (some (((decide (c.1.1.Ks=b)),()),())) (some ((false,()),()))) (some ((false,()),()))))
def bW(g:Q_g)(a:(b36)):Option RT0:=
 ((pU g a 2).bind fun b=>(some ((b.1.1,()),())))
def Zt(g:Q_g)(a:(b36)):Option RT0:=
 ((pU g a 1).bind fun b=>(some ((b.1.1,()),())))
def pJ(g:Q_g)(a:d7):Option RT0:=
 (cond (decide (a.Ks=2)) (nS g a) (cond (decide (a.Ks=19)) (nS g a) (cond (decide (a.Ks=3)) (Gw g a) (cond (decide (a.Ks=5)) (Gw g a) (cond (decide (a.Ks=7)) (Gw g a) (cond (decide (a.Ks=26)) (Gw g a) (cond (decide (a.Ks=27)) (Gw g a) (cond (decide (a.Ks=29)) (Gw g a) (cond (decide (a.Ks=4)) ((bZ g a.Ds).bind fun b=>(some ((b.1.1,()),()))) (cond (decide (a.Ks=23)) (some (((decide (a.Ns=0)),()),())) (cond (!(decide (a.Ds=([]:b36)))) (some ((false,()),())) (cond (decide (a.Ks=21)) (some (((decide (a.Ns≥0)),()),())) (cond (decide (a.Ks=22)) (cond (decide (a.Ns≥0)) (some (((decide (a.Ns<8388608)),()),())) (some ((false,()),()))) (cond (decide (a.Ks=24)) (cond (decide (a.Ns=0)) (some ((true,()),())) (some (((decide (a.Ns=1)),()),()))) (cond (decide (a.Ks=30)) (cond (decide (a.Ns=12)) (some ((true,()),())) (some (((decide (a.Ns=13)),()),()))) (cond (decide (a.Ks=31)) (cond (decide (a.Ns≥1)) (cond (decide (a.Ns≤11)) (some ((true,()),())) (cond (decide (a.Ns=14)) (some ((true,()),())) (some (((decide (a.Ns=15)),()),())))) (cond (decide (a.Ns=14)) (some ((true,()),())) (some (((decide (a.Ns=15)),()),())))) (some (((decide (a.Ns=0)),()),()))))))))))))))))))
def kE(g:Q_g)(a:d7):Option RT0:=
 ((yF g a.Ds).bind fun b=>(cond b.1.1 (some (((decide (a.Ns=0)),()),())) (some ((false,()),()))))
def rN(g:Q_g)(a:d7):Option RT0:=
 ((bZ g a.Ds).bind fun b=>(cond b.1.1 (some (((decide (a.Ns=0)),()),())) (some ((false,()),()))))
def cQ(g:Q_g)(a:d7):Option RT2:=
 (cond (decide (a.Ks=14)) (some ((48,()),())) (cond (decide (a.Ks≥15)) (cond (decide (a.Ks≤20)) (some ((116,()),())) (lQ g a)) (lQ g a)))
def lW(g:Q_g)(a:d7):Option RT2:=
 (cond (decide (a.Ks=6)) (some ((98,()),())) (cond (decide (a.Ks=5)) (some ((112,()),())) (cond (decide (a.Ks=3)) (some ((102,()),())) (cond (decide (a.Ks=2)) (some ((100,()),())) (cond (decide (a.Ks=4)) (some ((100,()),())) (TL g))))))
def dV(g:Q_g)(a:d7):Option RT2:=
 (cond (decide (a.Ks≥7)) (cond (decide (a.Ks≤13)) (some ((115,()),())) (oX g a)) (oX g a))
def lO(g:Q_g)(a:d7):Option RT2:=
 (cond (decide (a.Ks≥21)) (cond (decide (a.Ks≤32)) (some ((101,()),())) (sO g a)) (sO g a))
def qH(g:Q_g):Option RT2:=
 (some ((45,()),()))
def cE(g:Q_g)(a:(b36))(b:Int):Option RT0:=
 aW g a b 0
def Wg(g:Q_g)(a:(b36))(b:Int)(c:Int):Option RT0:=
 (cond (decide (c<(a.length:Int))) ((f5 a c).bind fun d=>(cond (!(decide ((d.toNat:Int)=b))) (some ((false,()),())) (aW g a b (w64 (c+1))))) (RJ g))
def fG(g:Q_g):Option RT0:=
 (some ((true,()),()))
def tG(g:Q_g)(a:(List d7))(b:Int):Option RT0:=
 ((J7 g a b).bind fun c=>Xt g a b c 0 ([]:List Int))
def Xb(g:Q_g)(a:(List d7))(b:Int)(c:RT3)(d:Int)(e:(List Int)):Option RT0:=
 (cond (decide (d<(c.1.1.length:Int))) ((f5 c.1.1 d).bind fun f=>((c.1.1[(Int.toNat d)]?).bind fun h=>((f5 a h).bind fun j=>((DJ g j).bind fun k=>((y9 1 e ([k.1.1]:List Int)).bind fun l=>Xt g a b c (w64 (d+1)) l))))) (DP g a b c e))
def fT(g:Q_g)(a:(List d7))(b:Int)(c:RT3)(d:(List Int)):Option RT0:=
 ((Qz d).bind fun _=>(cond (decide ((c.1.1.length:Int)>0)) ((f5 c.1.1 0).bind fun e=>((c.1.1[(Int.toNat 0)]?).bind fun f=>((f5 a f).bind fun h=>cC g a b d h))) (cC g a b d (d7.mk 0 0 0 0 0 ([]:b36)))))
def mV(g:Q_g)(a:(List d7))(b:Int)(c:(List Int))(d:d7):Option RT0:=
 ((f5 a b).bind fun e=>(cond (decide (e.Ks=1)) (cond (decide (b=0)) ((Lv g (y6 c) 100).bind fun f=>(some ((f.1.1,()),()))) (some ((false,()),()))) (cond (decide (e.Ks=2)) ((Lv g (y6 c) 102).bind fun h=>(some ((h.1.1,()),()))) (cond (decide (e.Ks=3)) (some (((decide ((y6 c)=([116]:b36))),()),())) (cond (decide (e.Ks=5)) (some (((decide ((y6 c)=([116]:b36))),()),())) (cond (decide (e.Ks=20)) (some (((decide ((y6 c)=([116]:b36))),()),())) (cond (decide (e.Ks=4)) (cond (decide (((y6 c).length:Int)≥2)) ((f5 a b).bind fun j=>(cond (decide ((w64 (((y6 c).length:Int)-2))=j.Ns)) ((okP (D2 (0:Int) (w64 (((y6 c).length:Int)-2)) ((y6 c).length:Int))).bind fun _=>((Lv g (y8 (y6 c) (0:Int) (w64 (((y6 c).length:Int)-2))) 112).bind fun k=>(cond k.1.1 ((f5 (y6 c) (w64 (((y6 c).length:Int)-2))).bind fun l=>(cond (decide ((l.toNat:Int)=116)) ((f5 (y6 c) (w64 (((y6 c).length:Int)-1))).bind fun m=>(some (((decide ((m.toNat:Int)=98)),()),()))) ((f5 (y6 c) (w64 (((y6 c).length:Int)-2))).bind fun n=>(cond (decide ((n.toNat:Int)=48)) ((f5 (y6 c) (w64 (((y6 c).length:Int)-1))).bind fun m=>(some (((decide ((m.toNat:Int)=98)),()),()))) (some ((false,()),())))))) (some ((false,()),()))))) (some ((false,()),())))) (some ((false,()),()))) (cond (decide (e.Ks=6)) ((Lv g (y6 c) 115).bind fun o=>(some ((o.1.1,()),()))) (cond (decide (e.Ks=7)) (some (((decide ((y6 c)=([116,101]:b36))),()),())) (cond (decide (e.Ks=8)) (cond (decide ((y6 c)=([101,101]:b36))) (cond (decide (d.Ks=26)) (some ((true,()),())) (cond (decide (d.Ks=28)) (some ((true,()),())) (some (((decide (d.Ks=29)),()),())))) (some ((false,()),()))) (cond (decide (e.Ks=9)) (cond (decide ((y6 c)=([101,98]:b36))) (some ((true,()),())) (some (((decide ((y6 c)=([101,98,98]:b36))),()),()))) (cond (decide (e.Ks=10)) (some (((decide ((y6 c)=([101,98]:b36))),()),())) (cond (decide (e.Ks=11)) (cond (decide ((y6 c)=([]:b36))) (some ((true,()),())) (some (((decide ((y6 c)=([101]:b36))),()),()))) (cond (decide (e.Ks=12)) (some (((decide ((y6 c)=([101]:b36))),()),())) (cond (decide (e.Ks=29)) (some (((decide ((y6 c)=([101]:b36))),()),())) (cond (decide (e.Ks=30)) (some (((decide ((y6 c)=([101]:b36))),()),())) (cond (decide (e.Ks=13)) (cond (decide ((y6 c)=([101]:b36))) (some (((decide (d.Ks=27)),()),())) (some ((false,()),()))) (cond (decide (e.Ks=27)) ((Lv g (y6 c) 101).bind fun p=>(some ((p.1.1,()),()))) (cond (decide (e.Ks=28)) (some (((decide ((y6 c)=([101,101]:b36))),()),())) (cond (decide (e.Ks=31)) (some (((decide ((y6 c)=([101,101]:b36))),()),())) (cond (decide (e.Ks=32)) (cond (decide ((y6 c)=([116]:b36))) (cond (decide (d.Ks=19)) (some ((true,()),())) (cond (decide ((y6 c)=([116,101]:b36))) (some (((decide (d.Ks=20)),()),())) (some ((false,()),())))) (cond (decide ((y6 c)=([116,101]:b36))) (some (((decide (d.Ks=20)),()),())) (some ((false,()),())))) (cond (decide ((y6 c)=([]:b36))) ((f5 a b).bind fun q=>(cond (decide (q.Ks≥14)) ((f5 a b).bind fun s=>(some (((decide (s.Ks≤26)),()),()))) (some ((false,()),())))) (some ((false,()),()))))))))))))))))))))))))
def kX(g:Q_g)(a:(List d7)):Option RT0:=
 ((fJ g a).bind fun b=>(cond (!b.1.1) (some ((false,()),())) ((f5 a 0).bind fun c=>(cond (!(decide (c.Ks=1))) (some ((false,()),())) (kA g a 0)))))
def Vr(g:Q_g)(a:(List d7))(b:Int):Option RT0:=
 (cond (decide (b<(a.length:Int))) ((f5 a b).bind fun c=>((DQ g c).bind fun d=>(cond (!d.1.1) (some ((false,()),())) ((zY g a b).bind fun e=>(cond (!e.1.1) (some ((false,()),())) (kA g a (w64 (b+1)))))))) (IA g))
def eV(g:Q_g):Option RT0:=
 (some ((true,()),()))
def CX(g:Q_g)(a:d8):Option RT0:=
 (some (((!(decide (a.F.Code=0))),()),()))
def lT(g:Q_g)(a:d8)(b:(b36)):Option RT2:=
 pO g b a 0
def Xg(g:Q_g)(a:(b36))(b:d8)(c:Int):Option RT2:=
 (cond (decide (c<(b.P.As.length:Int))) ((f5 b.P.As c).bind fun d=>(cond (decide (d.In=a)) (some ((c,()),())) (pO g a b (w64 (c+1))))) (KG g))
def uB(g:Q_g):Option RT2:=
 (some (((-1),()),()))
def kW(g:Q_g)(a:(List d7))(b:Int):Option RT3:=
 ((J7 g a 0).bind fun c=>Xv g a b c 0 ([]:List Int))
def Uy(g:Q_g)(a:(List d7))(b:Int)(c:RT3)(d:Int)(e:(List Int)):Option RT3:=
 (cond (decide (d<(c.1.1.length:Int))) ((f5 c.1.1 d).bind fun f=>((c.1.1[(Int.toNat d)]?).bind fun h=>((f5 a h).bind fun j=>(cond (decide (j.Ks=b)) ((f5 c.1.1 d).bind fun k=>((c.1.1[(Int.toNat d)]?).bind fun l=>((y9 8 e ([l]:List Int)).bind fun m=>Xv g a b c (w64 (d+1)) m))) (Xv g a b c (w64 (d+1)) e))))) (SU g e))
def oA(g:Q_g)(a:(List Int)):Option RT3:=
 (some ((a,()),()))
def fZ(g:Q_g)(a:(List d7))(b:(List Int))(c:(b36)):Option RT0:=
 Zl g a b c 0
def Xm(g:Q_g)(a:(List d7))(b:(List Int))(c:(b36))(d:Int):Option RT0:=
 (cond (decide (d<(b.length:Int))) ((f5 b d).bind fun e=>((f5 a e).bind fun f=>(cond (decide (f.Ds=c)) (some ((true,()),())) (Zl g a b c (w64 (d+1)))))) (PF g))
def iM(g:Q_g):Option RT0:=
 (some ((false,()),()))
def rS(g:Q_g)(a:Int):Option Kw:=
 aZ g a 0 ([(o4.mk 0 0),(o4.mk 1 0),(o4.mk 2 0),(o4.mk 3 0),(o4.mk 4 0),(o4.mk 5 0)]:List o4)
def Qu(g:Q_g)(a:Int)(b:Int)(c:(List o4)):Option Kw:=
 (cond (decide (b<a)) (cond (decide (b<100)) ((y9 16 c ([(o4.mk 6 b)]:List o4)).bind fun d=>aZ g a (w64 (b+1)) d) (uW g c)) (uW g c))
def cZ(g:Q_g)(a:(List o4)):Option Kw:=
 (some ((a,()),()))
def Ko(g:Q_g)(a:d8)(b:Int)(c:i8):b3S:=
 ((y9 24 ([]:List i8) a.P.Ms).bind fun d=>((f5 d b).bind fun e=>((d[(Int.toNat b)]?).bind fun f=>((R4 d (Int.toNat b) c).bind fun h=>(some (((d8.mk (l7.mk a.P.No h a.P.To a.P.Rs a.P.Hs a.P.As a.P.Ss a.P.Vars a.P.Ps) a.Rs a.F),()),()))))))
def pZ(g:Q_g)(a:(List o4))(b:Int):b35:=
 ((y9 16 ([]:List o4) a).bind fun c=>(cond (decide (b<1)) (some ((c,0,()),())) (cond (decide (b≥(a.length:Int))) (some ((c,0,()),())) (cond (decide (b=5)) (some ((c,0,()),())) (Vl g a b 0 c)))))
def Sa(g:Q_g)(a:(List o4))(b:Int)(c:Int)(d:(List o4)):b35:=
 (cond (decide (c<(a.length:Int))) ((f5 a c).bind fun e=>(cond (decide (e.Ks=7)) ((f5 a c).bind fun f=>(cond (decide (f.Of=b)) (some ((d,c,()),())) (Vl g a b (w64 (c+1)) d))) (Vl g a b (w64 (c+1)) d))) (SR g a b d))
def rX(g:Q_g)(a:(List o4))(b:Int)(c:(List o4)):b35:=
 ((y9 16 c ([(o4.mk 7 b)]:List o4)).bind fun d=>(some ((d,(a.length:Int),()),())))
def pD(g:Q_g)(a:(List d7)):Option RT0:=
 ((fJ g a).bind fun b=>(cond (!b.1.1) (some ((false,()),())) ((y9 56 ([(d7.mk 1 0 0 (w64 ((a.length:Int)+2)) 0 ([]:b36)),(d7.mk 2 0 0 (w64 ((a.length:Int)+1)) 0 ([82]:b36)),(d7.mk 3 0 0 (a.length:Int) 0 ([102]:b36))]:List d7) a).bind fun c=>((pE g c).bind fun d=>(some ((d.1.1,()),()))))))
def jD(g:Q_g)(a:(List o4))(b:(List (b36)))(c:d7):Option RT2:=
 (cond (decide (c.Ks<19)) (some (((w64 ((w64 c.Ks)-14)),()),())) (oQ g a b 0 c))
def Wb(g:Q_g)(a:(List o4))(b:(List (b36)))(c:Int)(d:d7):Option RT2:=
 (cond (decide (c<(b.length:Int))) ((f5 b c).bind fun e=>(cond (decide (e=d.Ds)) (cond (decide ((w64 (c+6))<(a.length:Int))) ((f5 a (w64 (c+6))).bind fun f=>(cond (decide (f.Ks=6)) (some (((w64 (c+6)),()),())) (some ((0,()),())))) (some ((0,()),()))) (oQ g a b (w64 (c+1)) d))) (OC g))
def nO(g:Q_g):Option RT2:=
 (some ((0,()),()))
def uE(g:Q_g)(a:(List o4))(b:(List (b36)))(c:(List d7)):b35:=
 ((y9 16 ([]:List o4) a).bind fun d=>((EG g c).bind fun e=>(cond (!e.1.1) (some ((d,0,()),())) ((f5 c (w64 ((c.length:Int)-1))).bind fun f=>((EE g a b f).bind fun h=>(cond (decide (h.1.1=0)) (some ((d,0,()),())) (wG g c h.1.1 0 d)))))))
def pW(g:Q_g)(a:(List d7))(b:Int)(c:Int)(d:(List o4)):b35:=
 (cond (decide (c<(w64 ((a.length:Int)-1)))) ((Jo g d b).bind fun e=>wG g a e.1.2.1 (w64 (c+1)) e.1.1) (UZ g b d))
def dS(g:Q_g)(a:Int)(b:(List o4)):b35:=
 (some ((b,a,()),()))
def dQ(g:Q_g)(a:d8)(b:Int)(c:i8):b3S:=
 ((y9 24 ([]:List i8) a.P.Ms).bind fun d=>((f5 d b).bind fun e=>((d[(Int.toNat b)]?).bind fun f=>((R4 d (Int.toNat b) c).bind fun h=>(some (((d8.mk (l7.mk a.P.No h a.P.To a.P.Rs a.P.Hs a.P.As a.P.Ss a.P.Vars a.P.Ps) a.Rs a.F),()),()))))))
def fD(g:Q_g)(a:d8)(b:Int)(c:Int):b3S:=
 ((N6 g a).bind fun d=>(cond (!d.1.1) ((f5 a.P.No c).bind fun e=>((f5 a.P.No c).bind fun f=>(some (((d8.mk a.P a.Rs (x8.mk b e.Ls f.Id)),()),())))) (some ((a,()),()))))
def cJ(g:Q_g)(a:d8)(b:Int):Option O2:=
 ((f5 a.P.No b).bind fun c=>(cond (decide (c.Ks=14)) (some ((0,a,()),())) ((f5 a.P.No b).bind fun d=>(cond (decide (d.Ks=20)) ((qR g a (w64 (b+1))).bind fun e=>((N6 g e.1.2.1).bind fun f=>(cond f.1.1 (some ((0,e.1.2.1,()),())) ((Jo g e.1.2.1.P.To e.1.1).bind fun h=>((Vp g (d8.mk (l7.mk e.1.2.1.P.No e.1.2.1.P.Ms h.1.1 e.1.2.1.P.Rs e.1.2.1.P.Hs e.1.2.1.P.As e.1.2.1.P.Ss e.1.2.1.P.Vars e.1.2.1.P.Ps) e.1.2.1.Rs e.1.2.1.F) b (i8.mk h.1.2.1 0 0)).bind fun j=>(some ((h.1.2.1,j.1.1,()),()))))))) ((okP (D2 b (w64 (b+1)) (a.P.No.length:Int))).bind fun _=>((Qd g a.P.To a.Rs (y8 a.P.No b (w64 (b+1)))).bind fun k=>(cond (decide (k.1.2.1=0)) ((Vn g a 8 b).bind fun l=>(some ((0,l.1.1,()),()))) ((Vp g a b (i8.mk k.1.2.1 0 0)).bind fun m=>(some ((k.1.2.1,m.1.1,()),()))))))))))
def kB(g:Q_g)(a:d8)(b:Int)(c:Int):b3S:=
 ((N6 g a).bind fun d=>(cond (!d.1.1) ((f5 a.P.No c).bind fun e=>((f5 a.P.No c).bind fun f=>(some (((d8.mk a.P a.Rs (x8.mk b e.Ls f.Id)),()),())))) (some ((a,()),()))))
def lL(g:Q_g)(a:d8):b3S:=
 ((bQ g a.P.No 2).bind fun b=>Rr g a b 0 a)
def Yl(g:Q_g)(a:d8)(b:RT3)(c:Int)(d:d8):b3S:=
 (cond (decide (c<(b.1.1.length:Int))) (cond (decide (c≥100)) ((f5 b.1.1 c).bind fun e=>((dT g d 13 e).bind fun f=>dG g a b c f.1.1)) (dG g a b c d)) (Qt g a b d))
def aK(g:Q_g)(a:d8)(b:RT3)(c:Int)(d:d8):b3S:=
 ((f5 b.1.1 c).bind fun e=>((Gh g d e (i8.mk 0 c 0)).bind fun f=>((f5 b.1.1 c).bind fun h=>((f5 a.P.No h).bind fun j=>((y9 16 f.1.1.Rs ([j.Ds]:List (b36))).bind fun k=>LF g a b c f k)))))
def nD(g:Q_g)(a:d8)(b:RT3)(c:Int)(d:d8):b3S:=
 ((okP (D2 (0:Int) c (b.1.1.length:Int))).bind fun _=>((f5 b.1.1 c).bind fun e=>((f5 a.P.No e).bind fun f=>((Mg g a.P.No (y8 b.1.1 (0:Int) c) f.Ds).bind fun h=>(cond h.1.1 ((f5 b.1.1 c).bind fun j=>((dT g d 7 j).bind fun k=>hO g a b c k.1.1)) (hO g a b c d))))))
def iZ(g:Q_g)(a:d8)(b:RT3)(c:d8):b3S:=
 ((DX g (b.1.1.length:Int)).bind fun d=>tF g a b 0 (d8.mk (l7.mk c.P.No c.P.Ms d.1.1 c.P.Rs c.P.Hs c.P.As c.P.Ss c.P.Vars c.P.Ps) c.Rs c.F))
def Zj(g:Q_g)(a:d8)(b:RT3)(c:Int)(d:l9)(e:(List (b36))):b3S:=
 Rr g a b (w64 (c+1)) (d8.mk d.1.1.P e d.1.1.F)
def Xl(g:Q_g)(a:d8)(b:RT3)(c:Int)(d:d8):b3S:=
 (cond (decide (c<(b.1.1.length:Int))) ((f5 b.1.1 c).bind fun e=>((J7 g a.P.No e).bind fun f=>Pj g a b c f (d.P.Hs.length:Int) c 0 d)) (TF g d))
def Vy(g:Q_g)(a:d8)(b:RT3)(c:Int)(d:RT3)(e:Int)(f:Int)(h:Int)(j:d8):b3S:=
 (cond (decide (h<(d.1.1.length:Int))) (cond (decide (h≥100)) ((f5 d.1.1 h).bind fun k=>((Vn g j 13 k).bind fun l=>Ym g a b c d e h f l.1.1)) (Ym g a b c d e h f j)) (Yk g a b c d e f j))
def bA(g:Q_g)(a:d8):b3S:=
 (some ((a,()),()))
def rL(g:Q_g)(a:d8)(b:RT3)(c:Int)(d:RT3)(e:Int)(f:Int)(h:Int)(j:d8):b3S:=
 ((N6 g j).bind fun k=>(cond k.1.1 (some ((j,()),())) ((f5 d.1.1 f).bind fun l=>((qR g j (w64 (l+1))).bind fun m=>((f5 d.1.1 f).bind fun n=>((Vp g m.1.2.1 n (i8.mk m.1.1 0 0)).bind fun o=>((f5 d.1.1 f).bind fun p=>((f5 a.P.No p).bind fun q=>((y9 24 o.1.1.P.Hs ([(R0.mk q.Ds m.1.1)]:List R0)).bind fun s=>HE g a b c d e h f o s)))))))))
def rC(g:Q_g)(a:d8)(b:RT3)(c:Int)(d:RT3)(e:Int)(f:Int)(h:Int)(j:d8):b3S:=
 ((okP (D2 (0:Int) f (d.1.1.length:Int))).bind fun _=>((f5 d.1.1 f).bind fun k=>((f5 a.P.No k).bind fun l=>((Mg g a.P.No (y8 d.1.1 (0:Int) f) l.Ds).bind fun m=>(cond m.1.1 ((f5 d.1.1 f).bind fun n=>((Vn g j 7 n).bind fun o=>Sz g a b c d e f h o.1.1)) (Sz g a b c d e f h j))))))
def mL(g:Q_g)(a:d8)(b:RT3)(c:Int)(d:RT3)(e:Int)(f:Int)(h:d8):b3S:=
 ((f5 b.1.1 c).bind fun j=>((f5 a.P.No j).bind fun k=>((y9 32 h.P.Rs ([(N3.mk k.Ds e (d.1.1.length:Int))]:List N3)).bind fun l=>KN g a b f h l)))
def iK(g:Q_g)(a:d8)(b:RT3)(c:Int)(d:RT3)(e:Int)(f:Int)(h:Int)(j:l9)(k:(List R0)):b3S:=
 Pj g a b c d e f (w64 (h+1)) (d8.mk (l7.mk j.1.1.P.No j.1.1.P.Ms j.1.1.P.To j.1.1.P.Rs k j.1.1.P.As j.1.1.P.Ss j.1.1.P.Vars j.1.1.P.Ps) j.1.1.Rs j.1.1.F)
def kK(g:Q_g)(a:d8)(b:RT3)(c:Int)(d:d8)(e:(List N3)):b3S:=
 tF g a b (w64 (c+1)) (d8.mk (l7.mk d.P.No d.P.Ms d.P.To e d.P.Hs d.P.As d.P.Ss d.P.Vars d.P.Ps) d.Rs d.F)
def jS(g:Q_g)(a:(b36)):Option RT2:=
 iD g a 0
def Vd(g:Q_g)(a:(b36))(b:Int):Option RT2:=
 (cond (decide (b<(([[],[108,101,110],[116,101,120,116],[114,101],[105,109],[112,97,105,114],[99,104,114],[114,101,97,100],[114,97,110,100]]:List (b36)).length:Int))) ((f5 ([[],[108,101,110],[116,101,120,116],[114,101],[105,109],[112,97,105,114],[99,104,114],[114,101,97,100],[114,97,110,100]]:List (b36)) b).bind fun c=>((([[],[108,101,110],[116,101,120,116],[114,101],[105,109],[112,97,105,114],[99,104,114],[114,101,97,100],[114,97,110,100]]:List (b36))[(Int.toNat b)]?).bind fun d=>(cond (decide (d=a)) (some ((b,()),())) (iD g a (w64 (b+1)))))) (KP g))
def eK(g:Q_g):Option RT2:=
 (some ((0,()),()))
def aO(g:Q_g)(a:d8)(b:Int)(c:i8):b3S:=
 ((y9 24 ([]:List i8) a.P.Ms).bind fun d=>((f5 d b).bind fun e=>((d[(Int.toNat b)]?).bind fun f=>((R4 d (Int.toNat b) c).bind fun h=>(some (((d8.mk (l7.mk a.P.No h a.P.To a.P.Rs a.P.Hs a.P.As a.P.Ss a.P.Vars a.P.Ps) a.Rs a.F),()),()))))))
def sI(g:Q_g)(a:d8)(b:Int)(c:Int):b3S:=
 ((N6 g a).bind fun d=>(cond (!d.1.1) ((f5 a.P.No c).bind fun e=>((f5 a.P.No c).bind fun f=>(some (((d8.mk a.P a.Rs (x8.mk b e.Ls f.Id)),()),())))) (some ((a,()),()))))
def mG(g:Q_g)(a:d8)(b:Int):Option O2:=
 ((f5 a.P.No b).bind fun c=>(cond (decide (c.Ks=14)) (some ((0,a,()),())) ((f5 a.P.No b).bind fun d=>(cond (decide (d.Ks=20)) ((Yr g a (w64 (b+1))).bind fun e=>((N6 g e.1.2.1).bind fun f=>(cond f.1.1 (some ((0,e.1.2.1,()),())) ((Jo g e.1.2.1.P.To e.1.1).bind fun h=>((Pa g (d8.mk (l7.mk e.1.2.1.P.No e.1.2.1.P.Ms h.1.1 e.1.2.1.P.Rs e.1.2.1.P.Hs e.1.2.1.P.As e.1.2.1.P.Ss e.1.2.1.P.Vars e.1.2.1.P.Ps) e.1.2.1.Rs e.1.2.1.F) b (i8.mk h.1.2.1 0 0)).bind fun j=>(some ((h.1.2.1,j.1.1,()),()))))))) ((okP (D2 b (w64 (b+1)) (a.P.No.length:Int))).bind fun _=>((Qd g a.P.To a.Rs (y8 a.P.No b (w64 (b+1)))).bind fun k=>(cond (decide (k.1.2.1=0)) ((Hg g a 8 b).bind fun l=>(some ((0,l.1.1,()),()))) ((Pa g a b (i8.mk k.1.2.1 0 0)).bind fun m=>(some ((k.1.2.1,m.1.1,()),()))))))))))
def nG(g:Q_g)(a:d8):b3S:=
 ((bQ g a.P.No 4).bind fun b=>We g a b 0 a)
def Ww(g:Q_g)(a:d8)(b:RT3)(c:Int)(d:d8):b3S:=
 (cond (decide (c<(b.1.1.length:Int))) ((f5 b.1.1 c).bind fun e=>(cond (decide (c≥100)) ((Hg g d 13 e).bind fun f=>jP g a b c e f.1.1) (jP g a b c e d))) (NB g d))
def Yj(g:Q_g)(a:d8)(b:RT3)(c:Int)(d:Int)(e:RT3)(f:Int)(h:Int)(j:d8):b3S:=
 (cond (decide (f<(w64 ((e.1.1.length:Int)-2)))) (cond (decide (f≥20)) ((f5 e.1.1 f).bind fun k=>((Hg g j 13 k).bind fun l=>Wu g a b c d e f h l.1.1)) (Wu g a b c d e f h j)) (Jj g a b c d e h j))
def qS(g:Q_g)(a:d8)(b:RT3)(c:Int)(d:Int)(e:Int)(f:d8):b3S:=
 ((Hg g f 7 d).bind fun h=>pC g a b c d e h.1.1)
def eJ(g:Q_g)(a:d8):b3S:=
 (some ((a,()),()))
def pM(g:Q_g)(a:d8)(b:RT3)(c:Int)(d:Int)(e:RT3)(f:Int)(h:Int)(j:d8):b3S:=
 ((N6 g j).bind fun k=>(cond k.1.1 (some ((j,()),())) ((f5 e.1.1 f).bind fun l=>((Yr g j (w64 (l+1))).bind fun m=>((f5 e.1.1 f).bind fun n=>((Pa g m.1.2.1 n (i8.mk m.1.1 0 0)).bind fun o=>NC g a b c d e f h o))))))
def sS(g:Q_g)(a:d8)(b:RT3)(c:Int)(d:Int)(e:RT3)(f:Int)(h:Int)(j:d8):b3S:=
 ((okP (D2 (0:Int) f (e.1.1.length:Int))).bind fun _=>((f5 e.1.1 f).bind fun k=>((f5 a.P.No k).bind fun l=>((Mg g a.P.No (y8 e.1.1 (0:Int) f) l.Ds).bind fun m=>(cond m.1.1 ((f5 e.1.1 f).bind fun n=>((Hg g j 7 n).bind fun o=>Sm g a b c d e f h o.1.1)) (Sm g a b c d e f h j))))))
def dD(g:Q_g)(a:d8)(b:RT3)(c:Int)(d:Int)(e:RT3)(f:Int)(h:d8):b3S:=
 ((N6 g h).bind fun j=>(cond j.1.1 (some ((h,()),())) ((f5 e.1.1 (w64 ((e.1.1.length:Int)-2))).bind fun k=>((Yr g h k).bind fun l=>((Pa g l.1.2.1 d (i8.mk l.1.1 c 0)).bind fun m=>((f5 a.P.No d).bind fun n=>((y9 72 m.1.1.P.As ([(u9.mk n.Ds d (w64 ((e.1.1.length:Int)-2)) l.1.1 0 0 0 0)]:List u9)).bind fun o=>XQ g a b f m o)))))))
def cG(g:Q_g)(a:d8)(b:RT3)(c:Int)(d:Int)(e:Int)(f:d8):b3S:=
 ((J7 g a.P.No d).bind fun h=>Me g a b c d h 0 e f)
def nJ(g:Q_g)(a:d8)(b:RT3)(c:Int)(d:Int)(e:RT3)(f:Int)(h:Int)(j:l9):b3S:=
 Me g a b c d e (w64 (f+1)) h j.1.1
def tB(g:Q_g)(a:d8)(b:RT3)(c:Int)(d:l9)(e:(List u9)):b3S:=
 We g a b (w64 (c+1)) (d8.mk (l7.mk d.1.1.P.No d.1.1.P.Ms d.1.1.P.To d.1.1.P.Rs d.1.1.P.Hs e d.1.1.P.Ss d.1.1.P.Vars d.1.1.P.Ps) d.1.1.Rs d.1.1.F)
def aH(g:Q_g)(a:d8)(b:RT3)(c:Int)(d:Int)(e:d8):b3S:=
 ((okP (D2 (0:Int) c (b.1.1.length:Int))).bind fun _=>((f5 a.P.No d).bind fun f=>((Mg g a.P.No (y8 b.1.1 (0:Int) c) f.Ds).bind fun h=>(cond h.1.1 (qN g a b c d c e) ((f5 a.P.No d).bind fun j=>((lE g j.Ds).bind fun k=>(cond (decide (k.1.1>0)) (qN g a b c d c e) (pC g a b c d c e))))))))
def fW(g:Q_g)(a:d8)(b:Int)(c:(List w8))(d:(b36))(e:Int)(f:Int)(h:Int):b32:=
 ((f5 a.P.As b).bind fun j=>((y9 40 ([]:List w8) c).bind fun k=>((y9 40 k ([(w8.mk d j.Ss f (a.P.Vars.length:Int))]:List w8)).bind fun l=>((y9 48 a.P.Vars ([(J1.mk b d j.Ss h 0)]:List J1)).bind fun m=>((y9 8 a.P.Ss ([e]:List Int)).bind fun n=>((y9 72 ([]:List u9) a.P.As).bind fun o=>((f5 o b).bind fun p=>((o[(Int.toNat b)]?).bind fun q=>((o[(Int.toNat b)]?).bind fun s=>((R4 o (Int.toNat b) (u9.mk s.In s.Gs s.Es s.By s.At (w64 (j.Ss+1)) s.Or s.Ps)).bind fun t=>(some ((l,(d8.mk (l7.mk a.P.No a.P.Ms a.P.To a.P.Rs a.P.Hs t n m a.P.Ps) a.Rs a.F),()),()))))))))))))
def Li(g:Q_g)(a:d8)(b:Int)(c:Int):b3S:=
 ((N6 g a).bind fun d=>(cond (!d.1.1) ((f5 a.P.No c).bind fun e=>((f5 a.P.No c).bind fun f=>(some (((d8.mk a.P a.Rs (x8.mk b e.Ls f.Id)),()),())))) (some ((a,()),()))))
def Zh(g:Q_g)(a:d8)(b:Int)(c:i8):b3S:=
 ((y9 24 ([]:List i8) a.P.Ms).bind fun d=>((f5 d b).bind fun e=>((d[(Int.toNat b)]?).bind fun f=>((R4 d (Int.toNat b) c).bind fun h=>(some (((d8.mk (l7.mk a.P.No h a.P.To a.P.Rs a.P.Hs a.P.As a.P.Ss a.P.Vars a.P.Ps) a.Rs a.F),()),()))))))
def lD(g:Q_g)(a:d8)(b:Int):Option O2:=
 ((f5 a.P.No b).bind fun c=>(cond (decide (c.Ks=14)) (some ((0,a,()),())) ((f5 a.P.No b).bind fun d=>(cond (decide (d.Ks=20)) ((Tc g a (w64 (b+1))).bind fun e=>((N6 g e.1.2.1).bind fun f=>(cond f.1.1 (some ((0,e.1.2.1,()),())) ((Jo g e.1.2.1.P.To e.1.1).bind fun h=>((Fd g (d8.mk (l7.mk e.1.2.1.P.No e.1.2.1.P.Ms h.1.1 e.1.2.1.P.Rs e.1.2.1.P.Hs e.1.2.1.P.As e.1.2.1.P.Ss e.1.2.1.P.Vars e.1.2.1.P.Ps) e.1.2.1.Rs e.1.2.1.F) b (i8.mk h.1.2.1 0 0)).bind fun j=>(some ((h.1.2.1,j.1.1,()),()))))))) ((okP (D2 b (w64 (b+1)) (a.P.No.length:Int))).bind fun _=>((Qd g a.P.To a.Rs (y8 a.P.No b (w64 (b+1)))).bind fun k=>(cond (decide (k.1.2.1=0)) ((Bh g a 8 b).bind fun l=>(some ((0,l.1.1,()),()))) ((Fd g a b (i8.mk k.1.2.1 0 0)).bind fun m=>(some ((k.1.2.1,m.1.1,()),()))))))))))
def dI(g:Q_g)(a:d8)(b:Int)(c:(List w8))(d:Int):b3S:=
 Iu g b c d d a
def Mm(g:Q_g)(a:Int)(b:(List w8))(c:Int)(d:Int)(e:d8):b3S:=
 ((f5 e.P.No c).bind fun f=>(cond (decide (d≤(w64 (c+f.Cs)))) ((N6 g e).bind fun h=>(cond h.1.1 (some ((e,()),())) ((f5 e.P.No d).bind fun j=>(cond (decide (j.Ks=26)) (Qa g a b c d (-1) 0 e j) (cond (decide (j.Ks=27)) ((sM g e j.Ds).bind fun k=>(cond (decide (k.1.1<0)) ((lE g j.Ds).bind fun l=>(cond (decide ((w64 (0-l.1.1))=0)) ((Bh g e 8 d).bind fun m=>(some ((m.1.1,()),()))) (gS g a b c d (w64 (0-l.1.1)) e))) (gS g a b c d k.1.1 e))) (cond (decide (j.Ks=32)) ((Tc g e (w64 (d+1))).bind fun n=>((Fd g n.1.2.1 d (i8.mk n.1.1 0 0)).bind fun o=>Mh g a b c d o.1.1)) (Mh g a b c d e))))))) (ND g e)))
def Tz(g:Q_g)(a:Int)(b:(List w8))(c:Int)(d:Int)(e:Int)(f:Int)(h:d8)(j:d7):b3S:=
 (cond (decide (f<(b.length:Int))) ((f5 b f).bind fun k=>(cond (decide (k.In=j.Ds)) ((f5 b f).bind fun l=>Qa g a b c d l.Ws (w64 (f+1)) h j) (Qa g a b c d e (w64 (f+1)) h j))) (FW g a b c d e h))
def jW(g:Q_g)(a:Int)(b:(List w8))(c:Int)(d:Int)(e:Int)(f:d8):b3S:=
 ((Fd g f d (i8.mk 0 e 0)).bind fun h=>Mh g a b c d h.1.1)
def Qy(g:Q_g)(a:d8):b3S:=
 (some ((a,()),()))
def tY(g:Q_g)(a:Int)(b:(List w8))(c:Int)(d:Int)(e:Int)(f:d8):b3S:=
 (cond (decide (e<0)) ((Bh g f 8 d).bind fun h=>(some ((h.1.1,()),()))) ((f5 f.P.As a).bind fun j=>((f5 f.P.Ss (w64 (j.At+e))).bind fun k=>((f.P.Ss[(Int.toNat (w64 (j.At+e)))]?).bind fun l=>((Fd g f d (i8.mk l e 0)).bind fun m=>Mh g a b c d m.1.1)))))
def It(g:Q_g)(a:Int)(b:(List w8))(c:Int)(d:Int)(e:d8):b3S:=
 Iu g a b c (w64 (d+1)) e
def sX(g:Q_g)(a:d8)(b:Int)(c:(List w8))(d:Int)(e:Int):b32:=
 ((f5 a.P.No e).bind fun f=>((y9 32 a.P.Ps ([(O9.mk b e f.Ls f.Id)]:List O9)).bind fun h=>((Fd g (d8.mk (l7.mk a.P.No a.P.Ms a.P.To a.P.Rs a.P.Hs a.P.As a.P.Ss a.P.Vars h) a.Rs a.F) e (i8.mk 0 0 (a.P.Ps.length:Int))).bind fun j=>((J7 g j.1.1.P.No e).bind fun k=>(cond (!(decide (f.Ks=7))) (Ox g b c k 0 j.1.1) ((f5 k.1.1 0).bind fun l=>((k.1.1[(Int.toNat 0)]?).bind fun m=>((Tc g j.1.1 m).bind fun n=>((N6 g n.1.2.1).bind fun o=>(cond (!o.1.1) ((f5 k.1.1 1).bind fun p=>((k.1.1[(Int.toNat 1)]?).bind fun q=>((rU g n.1.2.1 b c q).bind fun s=>tN g b c d e a n s.1.1 f))) (tN g b c d e a n n.1.2.1 f)))))))))))
def Uf(g:Q_g)(a:Int)(b:(List w8))(c:RT3)(d:Int)(e:d8):b32:=
 (cond (decide (d<(c.1.1.length:Int))) ((N6 g e).bind fun f=>(cond f.1.1 (some ((b,e,()),())) ((f5 c.1.1 d).bind fun h=>((c.1.1[(Int.toNat d)]?).bind fun j=>((f5 e.P.No j).bind fun k=>(cond (decide (k.Ks=6)) ((f5 c.1.1 d).bind fun l=>((c.1.1[(Int.toNat d)]?).bind fun m=>((jF g e a b m).bind fun n=>Ox g a b c (w64 (d+1)) n.1.1))) ((f5 c.1.1 d).bind fun o=>((c.1.1[(Int.toNat d)]?).bind fun p=>((rU g e a b p).bind fun q=>Ox g a b c (w64 (d+1)) q.1.1))))))))) (PV g b e))
def Xy(g:Q_g)(a:Int)(b:(List w8))(c:Int)(d:Int)(e:d8)(f:O2)(h:Int)(j:d8)(k:d7):b32:=
 (cond (decide (h<(b.length:Int))) ((f5 b h).bind fun l=>(cond (decide (l.In=k.Ds)) ((f5 b h).bind fun m=>(cond (decide (m.Xs=c)) ((Bh g j 7 d).bind fun n=>Qh g a b c d e f (w64 (h+1)) n.1.1 k) (Qh g a b c d e f (w64 (h+1)) j k))) (Qh g a b c d e f (w64 (h+1)) j k))) (xI g a b c d e f j k))
def rF(g:Q_g)(a:Int)(b:(List w8))(c:Int)(d:Int)(e:d8)(f:O2)(h:d8)(j:d7):b32:=
 Qh g a b c d e f 0 h j
def fQ(g:Q_g)(a:(List w8))(b:d8):b32:=
 (some ((a,b,()),()))
def Zm(g:Q_g)(a:Int)(b:(List w8))(c:Int)(d:Int)(e:d8)(f:O2)(h:d8)(j:d7):b32:=
 ((f5 h.P.As a).bind fun k=>(cond (decide (k.Ss≥200)) ((Bh g h 13 d).bind fun l=>kP g a b c d e f l.1.1 j) (kP g a b c d e f h j)))
def nI(g:Q_g)(a:Int)(b:(List w8))(c:Int)(d:Int)(e:d8)(f:O2)(h:d8)(j:d7):b32:=
 ((N6 g h).bind fun k=>(cond k.1.1 (some ((b,h,()),())) ((f5 h.P.As a).bind fun l=>((Fd g h d (i8.mk f.1.1 l.Ss (e.P.Ps.length:Int))).bind fun m=>((dK g m.1.1 a b j.Ds f.1.1 c (m.1.1.P.Ps.length:Int)).bind fun n=>(some ((n.1.1,n.1.2.1,()),())))))))
def cP(g:Q_g)(a:d8)(b:Int)(c:(List w8))(d:Int):b3S:=
 ((J7 g a.P.No d).bind fun e=>bN g b c d e 0 a)
def Xc(g:Q_g)(a:Int)(b:(List w8))(c:Int)(d:RT3)(e:Int)(f:d8):b3S:=
 (cond (decide (e<(d.1.1.length:Int))) ((N6 g f).bind fun h=>(cond h.1.1 (some ((f,()),())) ((f5 d.1.1 e).bind fun j=>((d.1.1[(Int.toNat e)]?).bind fun k=>((ER g f a b c k).bind fun l=>bN g a l.1.1 c d (w64 (e+1)) l.1.2.1))))) (CK g b c f))
def sZ(g:Q_g)(a:(List w8))(b:Int)(c:d8):b3S:=
 ((y9 48 ([]:List J1) c.P.Vars).bind fun d=>Wa g a b 0 c d)
def Xq(g:Q_g)(a:(List w8))(b:Int)(c:Int)(d:d8)(e:(List J1)):b3S:=
 (cond (decide (c<(a.length:Int))) ((f5 a c).bind fun f=>(cond (decide (f.Xs=b)) ((f5 a c).bind fun h=>((f5 e h.At).bind fun j=>((e[(Int.toNat h.At)]?).bind fun k=>((e[(Int.toNat h.At)]?).bind fun l=>((R4 e (Int.toNat h.At) (J1.mk l.Fn l.In l.Ws l.Or (d.P.Ps.length:Int))).bind fun m=>Wa g a b (w64 (c+1)) d m))))) (Wa g a b (w64 (c+1)) d e))) (YS g d e))
def qO(g:Q_g)(a:d8)(b:(List J1)):b3S:=
 (some (((d8.mk (l7.mk a.P.No a.P.Ms a.P.To a.P.Rs a.P.Hs a.P.As a.P.Ss b a.P.Ps) a.Rs a.F),()),()))
def cX(g:Q_g)(a:d8)(b:Int):b3S:=
 ((y9 72 ([]:List u9) a.P.As).bind fun c=>((f5 c b).bind fun d=>((c[(Int.toNat b)]?).bind fun e=>((c[(Int.toNat b)]?).bind fun f=>((R4 c (Int.toNat b) (u9.mk f.In f.Gs f.Es f.By (a.P.Ss.length:Int) f.Ss f.Or f.Ps)).bind fun h=>((f5 h b).bind fun j=>((h[(Int.toNat b)]?).bind fun k=>((h[(Int.toNat b)]?).bind fun l=>((R4 h (Int.toNat b) (u9.mk l.In l.Gs l.Es l.By l.At l.Ss (a.P.Ps.length:Int) l.Ps)).bind fun m=>((f5 m b).bind fun n=>((m[(Int.toNat b)]?).bind fun o=>((m[(Int.toNat b)]?).bind fun p=>((J7 g a.P.No p.Gs).bind fun q=>Yo g b q 0 (d8.mk (l7.mk a.P.No a.P.Ms a.P.To a.P.Rs a.P.Hs m a.P.Ss a.P.Vars a.P.Ps) a.Rs a.F) ([]:List w8))))))))))))))
def Yt(g:Q_g)(a:Int)(b:RT3)(c:Int)(d:d8)(e:(List w8)):b3S:=
 (cond (decide (c<(w64 ((b.1.1.length:Int)-2)))) ((f5 b.1.1 c).bind fun f=>((b.1.1[(Int.toNat c)]?).bind fun h=>((f5 d.P.No h).bind fun j=>((f5 b.1.1 c).bind fun k=>((b.1.1[(Int.toNat c)]?).bind fun l=>((f5 d.P.Ms l).bind fun m=>((f5 b.1.1 (w64 ((w64 ((b.1.1.length:Int)-2))+1))).bind fun n=>((b.1.1[(Int.toNat (w64 ((w64 ((b.1.1.length:Int)-2))+1)))]?).bind fun o=>((dK g d a e j.Ds m.Ts o (d.P.Ps.length:Int)).bind fun p=>Yo g a b (w64 (c+1)) p.1.2.1 p.1.1))))))))) (zC g a b d e))
def Zq(g:Q_g)(a:Int)(b:RT3)(c:d8)(d:(List w8)):b3S:=
 ((f5 b.1.1 (w64 ((w64 ((b.1.1.length:Int)-2))+1))).bind fun e=>((b.1.1[(Int.toNat (w64 ((w64 ((b.1.1.length:Int)-2))+1)))]?).bind fun f=>((jF g c a d f).bind fun h=>((y9 72 ([]:List u9) h.1.1.P.As).bind fun j=>((f5 j a).bind fun k=>((j[(Int.toNat a)]?).bind fun l=>((j[(Int.toNat a)]?).bind fun m=>((f5 j a).bind fun n=>((j[(Int.toNat a)]?).bind fun o=>((j[(Int.toNat a)]?).bind fun p=>((R4 j (Int.toNat a) (u9.mk p.In p.Gs p.Es p.By p.At p.Ss p.Or (w64 ((h.1.1.P.Ps.length:Int)-m.Or)))).bind fun q=>(some (((d8.mk (l7.mk h.1.1.P.No h.1.1.P.Ms h.1.1.P.To h.1.1.P.Rs h.1.1.P.Hs q h.1.1.P.Ss h.1.1.P.Vars h.1.1.P.Ps) h.1.1.Rs h.1.1.F),()),())))))))))))))
def gY(g:Q_g)(a:(List d7)):b3Y:=
 ((pE g a).bind fun b=>(cond (!b.1.1) (some (((l7.mk ([]:List d7) ([]:List i8) ([]:List o4) ([]:List N3) ([]:List R0) ([]:List u9) ([]:List Int) ([]:List J1) ([]:List O9)),(x8.mk 1 0 0),()),())) ((okP (Ib 24 (a.length:Int))).bind fun _=>((BE g (d8.mk (l7.mk a (List.replicate (Int.toNat (a.length:Int)) ((i8.mk 0 0 0):i8)) ([]:List o4) ([]:List N3) ([]:List R0) ([]:List u9) ([]:List Int) ([]:List J1) ([]:List O9)) ([]:List (b36)) (x8.mk 0 0 0))).bind fun c=>((N6 g c.1.1).bind fun d=>(cond (!d.1.1) ((vW g c.1.1).bind fun e=>mK g e.1.1) (mK g c.1.1)))))))
def Kj(g:Q_g)(a:Int)(b:Int)(c:d8):b3Y:=
 (cond (decide (b<a)) ((N6 g c).bind fun d=>(cond (!d.1.1) ((vS g c b).bind fun e=>Hh g a (w64 (b+1)) e.1.1) (Hh g a (w64 (b+1)) c))) (Ug g c))
def Wl(g:Q_g)(a:d8):b3Y:=
 Hh g (a.P.As.length:Int) 0 a
def aN(g:Q_g)(a:RT2)(b:d8):b3Y:=
 ((f5 b.P.As a.1.1).bind fun c=>((b.P.As[(Int.toNat a.1.1)]?).bind fun d=>((b.P.As[(Int.toNat a.1.1)]?).bind fun e=>((Hg g b 11 e.Gs).bind fun f=>Kn g f.1.1))))
def lS(g:Q_g)(a:d8):b3Y:=
 ((N6 g a).bind fun b=>(cond (!b.1.1) ((sM g a ([109,97,105,110]:b36)).bind fun c=>(cond (decide (c.1.1<0)) (Kn g (d8.mk a.P a.Rs (x8.mk 11 0 0))) ((f5 a.P.As c.1.1).bind fun d=>((a.P.As[(Int.toNat c.1.1)]?).bind fun e=>((a.P.As[(Int.toNat c.1.1)]?).bind fun f=>(cond (decide (f.Es>0)) (rR g c a) ((f5 a.P.As c.1.1).bind fun h=>((a.P.As[(Int.toNat c.1.1)]?).bind fun j=>((a.P.As[(Int.toNat c.1.1)]?).bind fun k=>(cond (!(decide (k.By=0))) (rR g c a) (Kn g a))))))))))) (Kn g a)))
def Qq(g:Q_g)(a:d8):b3Y:=
 ((N6 g a).bind fun b=>(cond b.1.1 (some (((l7.mk ([]:List d7) ([]:List i8) ([]:List o4) ([]:List N3) ([]:List R0) ([]:List u9) ([]:List Int) ([]:List J1) ([]:List O9)),a.F,()),())) (some ((a.P,(x8.mk 0 0 0),()),()))))
def tV(g:Q_g)(a:i9)(b:Int)(c:Int):Option RT4:=
 (cond (decide (a.F.Code=0)) ((f5 a.L c).bind fun d=>((f5 a.L c).bind fun e=>(some (((i9.mk a.L a.M a.P a.T (x8.mk b d.Ls e.Id) a.By),()),())))) (some ((a,()),())))
def rT(g:Q_g)(a:i9)(b:Bool)(c:Int):Option RT4:=
 (cond b (some ((a,()),())) ((Em g a 9 c).bind fun d=>(some ((d.1.1,()),()))))
def eM(g:Q_g)(a:(List o4))(b:Int)(c:Int):Option RT0:=
 (cond (decide (b<0)) (some ((false,()),())) (cond (decide (c<0)) (some ((false,()),())) (cond (decide (b≥(a.length:Int))) (some ((false,()),())) (cond (decide (c≥(a.length:Int))) (some ((false,()),())) (cond (decide (b=5)) ((f5 a c).bind fun d=>(cond (decide (d.Ks=6)) (some ((true,()),())) ((f5 a c).bind fun e=>(cond (decide (e.Ks=7)) (some ((true,()),())) (some (((decide (b=c)),()),())))))) (some (((decide (b=c)),()),())))))))
def dO(g:Q_g)(a:i9)(b:Int)(c:Int):Option RT0:=
 ((CB g a.T b c).bind fun d=>(some ((d.1.1,()),())))
def jA(g:Q_g)(a:Int):Option Fo:=
 ((f5 ([[],[108],[115],[99],[99],[105,105],[105],[],[105]]:List (b36)) a).bind fun b=>((([[],[108],[115],[99],[99],[105,105],[105],[],[105]]:List (b36))[(Int.toNat a)]?).bind fun c=>((f5 ([0,1,3,1,1,4,3,1,1]:List Int) a).bind fun d=>((([0,1,3,1,1,4,3,1,1]:List Int)[(Int.toNat a)]?).bind fun e=>(some ((c,e,()),()))))))
def pQ(g:Q_g)(a:i9)(b:Int):Option RT2:=
 ((f5 a.T b).bind fun c=>(some ((c.Ks,()),())))
def iL(g:Q_g)(a:i9)(b:Int)(c:Int):Option RT0:=
 (cond (decide (c=105)) (some (((decide (b=1)),()),())) (cond (decide (c=99)) (some (((decide (b=4)),()),())) (cond (decide (c=108)) (cond (decide (b=3)) (some ((true,()),())) ((Ln g a b).bind fun d=>(some (((decide (d.1.1=7)),()),())))) (cond (decide (b=1)) (some ((true,()),())) (cond (decide (b=2)) (some ((true,()),())) (some (((decide (b=4)),()),())))))))
def mC(g:Q_g)(a:i9)(b:Int):b3U:=
 ((J7 g a.L b).bind fun c=>Yd g b c 0 a ([]:List Int))
def Rv(g:Q_g)(a:Int)(b:RT3)(c:Int)(d:i9)(e:(List Int)):b3U:=
 (cond (decide (c<(b.1.1.length:Int))) ((f5 b.1.1 c).bind fun f=>((b.1.1[(Int.toNat c)]?).bind fun h=>((R7 g d h).bind fun j=>((y9 8 e ([j.1.1]:List Int)).bind fun k=>Yd g a b (w64 (c+1)) j.1.2.1 k)))) (BG g a d b e))
def aG(g:Q_g)(a:Int)(b:i9)(c:RT3)(d:(List Int)):b3U:=
 (cond (!(decide (b.F.Code=0))) (some ((0,b,()),())) ((f5 b.M a).bind fun e=>(cond (decide (e.Do<0)) ((DY g (w64 (0-e.Do))).bind fun f=>(cond (!(decide ((f.1.1.length:Int)=(c.1.1.length:Int)))) ((Em g b 10 a).bind fun h=>(some ((0,h.1.1,()),()))) (Vq g f c 0 b d))) ((f5 b.P.As e.Do).bind fun j=>(cond (!(decide (j.Es=(c.1.1.length:Int)))) ((Em g b 10 a).bind fun k=>(some ((0,k.1.1,()),()))) (Ql g c 0 b j d))))))
def Vg(g:Q_g)(a:Fo)(b:RT3)(c:Int)(d:i9)(e:(List Int)):b3U:=
 (cond (decide (c<(b.1.1.length:Int))) ((f5 e c).bind fun f=>((e[(Int.toNat c)]?).bind fun h=>((f5 a.1.1 c).bind fun j=>((xB g d h (j.toNat:Int)).bind fun k=>((f5 b.1.1 c).bind fun l=>((b.1.1[(Int.toNat c)]?).bind fun m=>((J8 g d k.1.1 m).bind fun n=>Vq g a b (w64 (c+1)) n.1.1 e))))))) (EU g a d))
def Xf(g:Q_g)(a:RT3)(b:Int)(c:i9)(d:u9)(e:(List Int)):b3U:=
 (cond (decide (b<(a.1.1.length:Int))) ((f5 e b).bind fun f=>((e[(Int.toNat b)]?).bind fun h=>((f5 c.P.Ss (w64 (d.At+b))).bind fun j=>((Al g c h j).bind fun k=>((f5 a.1.1 b).bind fun l=>((a.1.1[(Int.toNat b)]?).bind fun m=>((J8 g c k.1.1 m).bind fun n=>Ql g a (w64 (b+1)) n.1.1 d e))))))) (yU g c d))
def hH(g:Q_g)(a:Fo)(b:i9):b3U:=
 (some ((a.1.2.1,b,()),()))
def oF(g:Q_g)(a:i9)(b:u9):b3U:=
 (some ((b.By,a,()),()))
def kC(g:Q_g)(a:i9)(b:Int)(c:Int):b3U:=
 ((R7 g a c).bind fun d=>(cond (!(decide (d.1.2.1.F.Code=0))) (fI g c d) ((Ln g d.1.2.1 d.1.1).bind fun e=>(cond (!(decide (e.1.1=6))) (fI g c d) ((f5 d.1.2.1.T d.1.1).bind fun f=>((f5 d.1.2.1.P.Rs f.Of).bind fun h=>Uj g b 0 d h))))))
def qV(g:Q_g)(a:Int)(b:A6):b3U:=
 ((Em g b.1.2.1 9 a).bind fun c=>(some ((0,c.1.1,()),())))
def Uh(g:Q_g)(a:Int)(b:Int)(c:A6)(d:N3):b3U:=
 (cond (decide (b<d.Vs)) ((f5 c.1.2.1.P.Hs (w64 (d.Us+b))).bind fun e=>((f5 c.1.2.1.L a).bind fun f=>(cond (decide (e.In=f.Ds)) ((y9 24 ([]:List i8) c.1.2.1.M).bind fun h=>((f5 h a).bind fun j=>((h[(Int.toNat a)]?).bind fun k=>((h[(Int.toNat a)]?).bind fun l=>((R4 h (Int.toNat a) (i8.mk l.Ts b l.If)).bind fun m=>(some ((e.Ts,(i9.mk c.1.2.1.L m c.1.2.1.P c.1.2.1.T c.1.2.1.F c.1.2.1.By),()),()))))))) (Uj g a (w64 (b+1)) c d)))) (OM g a c))
def oP(g:Q_g)(a:Int)(b:A6):b3U:=
 ((Em g b.1.2.1 8 a).bind fun c=>(some ((0,c.1.1,()),())))
def tZ(g:Q_g)(a:i9)(b:Int)(c:Int)(d:Int):Option RT2:=
 ((Ln g a c).bind fun e=>((Ln g a d).bind fun f=>(cond (decide (b=6)) (cA g c d e f a) (cond (decide (b=7)) (cA g c d e f a) (cond (!(decide (c=d))) (some ((0,()),())) (cond (decide (b=14)) (eI g c) (cond (decide (b=15)) (eI g c) (cond (decide (b≥8)) (cond (decide (c=1)) (some ((2,()),())) (Gf g)) (cond (decide (c=1)) (some ((1,()),())) (cond (decide (c=4)) (cond (decide (b≤3)) (some ((4,()),())) (eU g b c)) (eU g b c)))))))))))
def Zy(g:Q_g)(a:Int)(b:Int):Option RT2:=
 (cond (decide (a=b)) (cond (decide (a>0)) (some ((2,()),())) (Gf g)) (Gf g))
def pV(g:Q_g)(a:Int)(b:Int)(c:RT2)(d:RT2)(e:i9):Option RT2:=
 (cond (decide (c.1.1≥5)) (cond (decide (d.1.1≥5)) (cond (!(decide (c.1.1=5))) ((Al g e a b).bind fun f=>(cond f.1.1 (some ((2,()),())) ((Al g e b a).bind fun h=>(cond h.1.1 (some ((2,()),())) (some ((0,()),())))))) (cond (!(decide (d.1.1=5))) ((Al g e a b).bind fun f=>(cond f.1.1 (some ((2,()),())) ((Al g e b a).bind fun h=>(cond h.1.1 (some ((2,()),())) (some ((0,()),())))))) (some ((0,()),())))) (rB g a b)) (rB g a b))
def jG(g:Q_g)(a:Int):Option RT2:=
 (cond (decide (a=2)) (some ((2,()),())) (Gf g))
def mM(g:Q_g)(a:Int)(b:Int):Option RT2:=
 (cond (decide (b=3)) (cond (decide (a=1)) (some ((3,()),())) (Gf g)) (Gf g))
def BS(g:Q_g):Option RT2:=
 (some ((0,()),()))
def gC(g:Q_g)(a:i9)(b:Int)(c:Int):Option RT4:=
 ((y9 24 ([]:List i8) a.M).bind fun d=>((f5 d b).bind fun e=>((d[(Int.toNat b)]?).bind fun f=>((d[(Int.toNat b)]?).bind fun h=>((R4 d (Int.toNat b) (i8.mk c h.Do h.If)).bind fun j=>(some (((i9.mk a.L j a.P a.T a.F a.By),()),())))))))
def aL(g:Q_g)(a:i9)(b:Int):b3U:=
 (cond (!(decide (a.F.Code=0))) (some ((0,a,()),())) ((f5 a.L b).bind fun c=>((J7 g a.L b).bind fun d=>((f5 a.M b).bind fun e=>(cond (decide (c.Ks≥21)) (cond (decide (c.Ks≤25)) ((f5 ([1,4,3,2,5]:List Int) (IntKind.wrap .u8 (c.Ks-21))).bind fun f=>((([1,4,3,2,5]:List Int)[(Int.toNat (IntKind.wrap .u8 (c.Ks-21)))]?).bind fun h=>J0 g b h a)) (xE g b e a c d)) (xE g b e a c d))))))
def qW(g:Q_g)(a:Int)(b:Int)(c:i9):b3U:=
 ((uZ g c a b).bind fun d=>(some ((b,d.1.1,()),())))
def iP(g:Q_g)(a:Int)(b:Int)(c:A6)(d:RT3):b3U:=
 ((f5 d.1.1 0).bind fun e=>((d.1.1[(Int.toNat 0)]?).bind fun f=>((J8 g c.1.2.1 (decide (b>0)) f).bind fun h=>((f5 d.1.1 1).bind fun j=>((d.1.1[(Int.toNat 1)]?).bind fun k=>((J8 g h.1.1 (decide (c.1.1=1)) k).bind fun l=>J0 g a b l.1.1))))))
def cB(g:Q_g)(a:Int)(b:Int)(c:A6)(d:A6)(e:RT3):b3U:=
 (cond (decide (c.1.1=3)) (cD g a 1 d e) (cD g a b d e))
def rP(g:Q_g)(a:Int)(b:i8)(c:i9)(d:d7)(e:RT3):b3U:=
 (cond (decide (d.Ks=27)) ((zT g c a).bind fun f=>J0 g a f.1.1 f.1.2.1) (cond (decide (d.Ks=28)) ((f5 e.1.1 0).bind fun h=>((e.1.1[(Int.toNat 0)]?).bind fun j=>((R7 g c j).bind fun k=>((f5 e.1.1 1).bind fun l=>((e.1.1[(Int.toNat 1)]?).bind fun m=>((R7 g k.1.2.1 m).bind fun n=>((Ln g n.1.2.1 k.1.1).bind fun o=>(cond (decide (o.1.1=7)) ((f5 n.1.2.1.T k.1.1).bind fun p=>jK g a p.Of k n e) (jK g a 0 k n e))))))))) (cond (decide (d.Ks=29)) ((f5 e.1.1 0).bind fun q=>((e.1.1[(Int.toNat 0)]?).bind fun s=>((HU g c a s).bind fun t=>J0 g a t.1.1 t.1.2.1))) (cond (decide (d.Ks=30)) ((f5 e.1.1 0).bind fun u=>((e.1.1[(Int.toNat 0)]?).bind fun v=>((R7 g c v).bind fun w=>(cond (decide (d.Ns=13)) (cond (decide (w.1.1=2)) ((f5 e.1.1 0).bind fun y=>((e.1.1[(Int.toNat 0)]?).bind fun z=>((J8 g w.1.2.1 true z).bind fun a1=>J0 g a w.1.1 a1.1.1))) (cond (decide (d.Ns=12)) (cond (decide (w.1.1=1)) ((f5 e.1.1 0).bind fun y=>((e.1.1[(Int.toNat 0)]?).bind fun z=>((J8 g w.1.2.1 true z).bind fun a1=>J0 g a w.1.1 a1.1.1))) ((f5 e.1.1 0).bind fun y=>((e.1.1[(Int.toNat 0)]?).bind fun z=>((J8 g w.1.2.1 (decide (w.1.1=4)) z).bind fun a1=>J0 g a w.1.1 a1.1.1)))) ((f5 e.1.1 0).bind fun y=>((e.1.1[(Int.toNat 0)]?).bind fun z=>((J8 g w.1.2.1 false z).bind fun a1=>J0 g a w.1.1 a1.1.1))))) (cond (decide (d.Ns=12)) (cond (decide (w.1.1=1)) ((f5 e.1.1 0).bind fun y=>((e.1.1[(Int.toNat 0)]?).bind fun z=>((J8 g w.1.2.1 true z).bind fun a1=>J0 g a w.1.1 a1.1.1))) ((f5 e.1.1 0).bind fun y=>((e.1.1[(Int.toNat 0)]?).bind fun z=>((J8 g w.1.2.1 (decide (w.1.1=4)) z).bind fun a1=>J0 g a w.1.1 a1.1.1)))) ((f5 e.1.1 0).bind fun y=>((e.1.1[(Int.toNat 0)]?).bind fun z=>((J8 g w.1.2.1 false z).bind fun a1=>J0 g a w.1.1 a1.1.1)))))))) (cond (decide (d.Ks=31)) ((f5 e.1.1 0).bind fun b1=>((e.1.1[(Int.toNat 0)]?).bind fun c1=>((R7 g c c1).bind fun d1=>((f5 e.1.1 1).bind fun e1=>((e.1.1[(Int.toNat 1)]?).bind fun f1=>((R7 g d1.1.2.1 f1).bind fun h1=>((yN g h1.1.2.1 d.Ns d1.1.1 h1.1.1).bind fun j1=>((J8 g h1.1.2.1 (decide (j1.1.1>0)) a).bind fun k1=>J0 g a j1.1.1 k1.1.1)))))))) (cond (decide (d.Ks=32)) (cond (decide ((e.1.1.length:Int)=2)) ((f5 e.1.1 1).bind fun l1=>((e.1.1[(Int.toNat 1)]?).bind fun m1=>((R7 g c m1).bind fun n1=>((f5 e.1.1 1).bind fun o1=>((e.1.1[(Int.toNat 1)]?).bind fun p1=>((J8 g n1.1.2.1 (decide (n1.1.1=1)) p1).bind fun q1=>J0 g a b.Ts q1.1.1)))))) (J0 g a b.Ts c)) (J0 g a b.Ts c)))))))
def Gy(g:Q_g)(a:i9)(b:Int):b34:=
 (cond (!(decide (a.F.Code=0))) (some ((false,a,()),())) ((J7 g a.L b).bind fun c=>((f5 a.L b).bind fun d=>(cond (decide (d.Ks=7)) ((f5 c.1.1 1).bind fun e=>((c.1.1[(Int.toNat 1)]?).bind fun f=>((R7 g a f).bind fun h=>((f5 h.1.2.1.M b).bind fun j=>((Al g h.1.2.1 h.1.1 j.Ts).bind fun k=>((f5 c.1.1 1).bind fun l=>((c.1.1[(Int.toNat 1)]?).bind fun m=>((J8 g h.1.2.1 k.1.1 m).bind fun n=>(some ((false,n.1.1,()),())))))))))) (cond (decide (d.Ks=8)) ((f5 c.1.1 0).bind fun o=>((c.1.1[(Int.toNat 0)]?).bind fun p=>((R7 g a p).bind fun q=>((f5 c.1.1 1).bind fun s=>((c.1.1[(Int.toNat 1)]?).bind fun t=>((R7 g q.1.2.1 t).bind fun u=>(cond (decide (u.1.2.1.F.Code=0)) ((f5 c.1.1 0).bind fun v=>((c.1.1[(Int.toNat 0)]?).bind fun w=>((f5 u.1.2.1.L w).bind fun y=>(cond (decide (y.Ks=28)) ((f5 c.1.1 0).bind fun z=>((c.1.1[(Int.toNat 0)]?).bind fun a1=>((f5 u.1.2.1.M (w64 (a1+1))).bind fun b1=>(cond (decide (b1.Ts=3)) ((f5 c.1.1 0).bind fun c1=>((c.1.1[(Int.toNat 0)]?).bind fun d1=>((Em g u.1.2.1 9 d1).bind fun e1=>Mp g q u e1.1.1 c))) (Mp g q u u.1.2.1 c))))) (Mp g q u u.1.2.1 c))))) (Mp g q u u.1.2.1 c)))))))) (cond (decide (d.Ks=9)) (gW g a c) (cond (decide (d.Ks=10)) (gW g a c) (cond (decide (d.Ks=11)) (cond (decide ((c.1.1.length:Int)=0)) ((J8 g a (decide (a.By=0)) b).bind fun f1=>(some ((true,f1.1.1,()),()))) ((f5 c.1.1 0).bind fun h1=>((c.1.1[(Int.toNat 0)]?).bind fun j1=>((R7 g a j1).bind fun k1=>(cond (!(decide (a.By=0))) ((Al g k1.1.2.1 k1.1.1 a.By).bind fun l1=>((f5 c.1.1 0).bind fun m1=>((c.1.1[(Int.toNat 0)]?).bind fun n1=>((J8 g k1.1.2.1 l1.1.1 n1).bind fun o1=>(some ((true,o1.1.1,()),())))))) ((f5 c.1.1 0).bind fun m1=>((c.1.1[(Int.toNat 0)]?).bind fun n1=>((J8 g k1.1.2.1 false n1).bind fun o1=>(some ((true,o1.1.1,()),())))))))))) (cond (decide (d.Ks=12)) ((f5 c.1.1 0).bind fun p1=>((c.1.1[(Int.toNat 0)]?).bind fun q1=>((R7 g a q1).bind fun s1=>((f5 c.1.1 0).bind fun t1=>((c.1.1[(Int.toNat 0)]?).bind fun u1=>((J8 g s1.1.2.1 (!(decide (s1.1.1=0))) u1).bind fun v1=>(some ((false,v1.1.1,()),())))))))) ((f5 c.1.1 0).bind fun w1=>((c.1.1[(Int.toNat 0)]?).bind fun y1=>((R7 g a y1).bind fun z1=>(some ((false,z1.1.2.1,()),()))))))))))))))
def iS(g:Q_g)(a:A6)(b:A6)(c:i9)(d:RT3):b34:=
 ((Al g c b.1.1 a.1.1).bind fun e=>((f5 d.1.1 1).bind fun f=>((d.1.1[(Int.toNat 1)]?).bind fun h=>((J8 g c e.1.1 h).bind fun j=>(some ((false,j.1.1,()),()))))))
def Tg(g:Q_g)(a:Bool)(b:Int)(c:i9)(d:RT3):b34:=
 (cond (decide (b<(d.1.1.length:Int))) ((f5 d.1.1 b).bind fun e=>((d.1.1[(Int.toNat b)]?).bind fun f=>((rJ g c f).bind fun h=>(cond a (Pb g h.1.1 (w64 (b+1)) h.1.2.1 d) (Pb g false (w64 (b+1)) h.1.2.1 d))))) (MP g a c))
def Zv(g:Q_g)(a:i9)(b:RT3):b34:=
 ((f5 b.1.1 0).bind fun c=>((b.1.1[(Int.toNat 0)]?).bind fun d=>((R7 g a d).bind fun e=>((f5 b.1.1 0).bind fun f=>((b.1.1[(Int.toNat 0)]?).bind fun h=>((J8 g e.1.2.1 (decide (e.1.1=2)) h).bind fun j=>Pb g (decide ((b.1.1.length:Int)=3)) 1 j.1.1 b))))))
def tP(g:Q_g)(a:Bool)(b:i9):b34:=
 (some ((a,b,()),()))
def jQ(g:Q_g)(a:i9)(b:Int):b34:=
 ((J7 g a.L b).bind fun c=>tR g false c 0 a)
def Si(g:Q_g)(a:Bool)(b:RT3)(c:Int)(d:i9):b34:=
 (cond (decide (c<(b.1.1.length:Int))) ((f5 b.1.1 c).bind fun e=>((b.1.1[(Int.toNat c)]?).bind fun f=>((Ht g d f).bind fun h=>tR g h.1.1 b (w64 (c+1)) h.1.2.1))) (VL g a d))
def gD(g:Q_g)(a:Bool)(b:i9):b34:=
 (some ((a,b,()),()))
def rZ(g:Q_g)(a:(List d7)):b3Y:=
 ((xL g a).bind fun b=>(cond (!(decide (b.1.2.1.Code=0))) (some (((l7.mk ([]:List d7) ([]:List i8) ([]:List o4) ([]:List N3) ([]:List R0) ([]:List u9) ([]:List Int) ([]:List J1) ([]:List O9)),b.1.2.1,()),())) (Hp g a b 0 (i9.mk a b.1.1.Ms b.1.1 b.1.1.To (x8.mk 0 0 0) 0))))
def Tu(g:Q_g)(a:(List d7))(b:I7)(c:Int)(d:i9):b3Y:=
 (cond (decide (c<(b.1.1.As.length:Int))) ((f5 b.1.1.As c).bind fun e=>((J7 g a e.Gs).bind fun f=>((f5 b.1.1.As c).bind fun h=>((f5 f.1.1 (w64 ((f.1.1.length:Int)-1))).bind fun j=>((f.1.1[(Int.toNat (w64 ((f.1.1.length:Int)-1)))]?).bind fun k=>((rJ g (i9.mk d.L d.M d.P d.T d.F h.By) k).bind fun l=>(cond (!(decide (l.1.2.1.By=0))) (cond (!l.1.1) ((f5 b.1.1.As c).bind fun m=>((Em g l.1.2.1 12 m.Gs).bind fun n=>Hp g a b (w64 (c+1)) n.1.1)) (Hp g a b (w64 (c+1)) l.1.2.1)) (Hp g a b (w64 (c+1)) l.1.2.1)))))))) (aA g b d))
def eC(g:Q_g)(a:I7)(b:i9):b3Y:=
 (cond (!(decide (b.F.Code=0))) (some (((l7.mk ([]:List d7) ([]:List i8) ([]:List o4) ([]:List N3) ([]:List R0) ([]:List u9) ([]:List Int) ([]:List J1) ([]:List O9)),b.F,()),())) (some (((l7.mk a.1.1.No b.M a.1.1.To a.1.1.Rs a.1.1.Hs a.1.1.As a.1.1.Ss a.1.1.Vars a.1.1.Ps),(x8.mk 0 0 0),()),())))
def tD(g:Q_g)(a:(b36)):b3Y:=
 ((oI g a).bind fun b=>(cond (!(decide (b.1.2.1.Code=0))) (some (((l7.mk ([]:List d7) ([]:List i8) ([]:List o4) ([]:List N3) ([]:List R0) ([]:List u9) ([]:List Int) ([]:List J1) ([]:List O9)),b.1.2.1,()),())) ((FN g b.1.1).bind fun c=>(some ((c.1.1,c.1.2.1,()),())))))
def qQ(g:Q_g)(a:(b36)):Option zX:=
 (cond (decide ((a.length:Int)>2000)) (some (((l7.mk ([]:List d7) ([]:List i8) ([]:List o4) ([]:List N3) ([]:List R0) ([]:List u9) ([]:List Int) ([]:List J1) ([]:List O9)),false,()),())) ((aC g a).bind fun b=>(some ((b.1.1,(decide (b.1.2.1.Code=0)),()),()))))
def bE(g:Q_g)(a:v6)(b:Int):Option N8:=
 kS g b a (w64 (b+1)) ([]:List Int)
def Yn(g:Q_g)(a:Int)(b:v6)(c:Int)(d:(List Int)):Option N8:=
 ((f5 b.p_.No a).bind fun e=>(cond (decide (c≤(w64 (a+e.Cs)))) ((y9 8 d ([c]:List Int)).bind fun f=>((f5 b.p_.No c).bind fun h=>kS g a b (w64 (c+(w64 (1+h.Cs)))) f)) (MQ g b d)))
def oR(g:Q_g)(a:v6)(b:(List Int)):Option N8:=
 (some ((b,()),(a,())))
def qT(g:Q_g)(a:v6)(b:Int)(c:Int)(d:Int):Option RT1:=
 ((f5 a.p_.No d).bind fun e=>((y9 24 a.c_.Qs ([(i5.mk b c e.Ls)]:List i5)).bind fun f=>(some (((w64 ((w64 ((f.length:Int)-1))-a.from_)),()),((v6.mk a.p_ (o9.mk f a.c_.As a.c_.Is) a.from_ a.texts_),())))))
def Qm(g:Q_g)(a:v6):Option RT2:=
 (some (((w64 ((a.c_.Qs.length:Int)-a.from_)),()),()))
def dP(g:Q_g)(a:v6)(b:Int):b3W:=
 ((BR g a).bind fun c=>((f5 a.c_.Qs (w64 (a.from_+b))).bind fun d=>((a.c_.Qs[(Int.toNat (w64 (a.from_+b)))]?).bind fun e=>((a.c_.Qs[(Int.toNat (w64 (a.from_+b)))]?).bind fun f=>((R4 a.c_.Qs (Int.toNat (w64 (a.from_+b))) (i5.mk f.Op c.1.1 f.Ls)).bind fun h=>(some ((()),((v6.mk a.p_ (o9.mk h a.c_.As a.c_.Is) a.from_ a.texts_),()))))))))
def sV(g:Q_g)(a:v6)(b:(b36)):Option RT1:=
 (cond (Xh eqS a.texts_ b) ((Ed eqS a.texts_ b).bind fun(c:Int)=>zU g b c true a) (zU g b 0 false a))
def Td(g:Q_g)(a:(b36))(b:Int)(c:Bool)(d:v6):Option RT1:=
 (cond (!c) ((y9 16 d.c_.Is ([a]:List (b36))).bind fun e=>(some (((d.c_.Is.length:Int),()),((v6.mk d.p_ (o9.mk d.c_.Qs d.c_.As e) d.from_ (Mr eqS d.texts_ a (d.c_.Is.length:Int))),())))) (some ((b,()),(d,()))))
def Zc(g:Q_g)(a:v6)(b:d7)(c:i8):Option uL:=
 (cond (decide (b.Ks=21)) (some ((2,b.Ns,()),(a,()))) (cond (decide (b.Ks=22)) (some ((4,b.Ns,()),(a,()))) (cond (decide (b.Ks=23)) ((BD g a b.Ds).bind fun d=>(some ((5,d.1.1,()),(d.2.1,())))) (cond (decide (b.Ks=24)) (some ((3,b.Ns,()),(a,()))) (cond (decide (b.Ks=26)) (some ((7,c.Do,()),(a,()))) (cond (decide (b.Ks=27)) (cond (decide (c.Do<0)) (some ((20,(w64 (0-c.Do)),()),(a,()))) (some ((19,c.Do,()),(a,())))) (cond (decide (b.Ks=28)) (some ((15,0,()),(a,()))) (cond (decide (b.Ks=29)) (some ((17,c.Do,()),(a,()))) (cond (decide (b.Ks=30)) (some ((9,b.Ns,()),(a,()))) (cond (decide (b.Ks=31)) (some ((10,b.Ns,()),(a,()))) (cond (decide (b.Ks=32)) ((f5 a.p_.To c.Ts).bind fun e=>(cond (decide (e.Ks=6)) (some ((22,e.Of,()),(a,()))) (some ((21,e.Of,()),(a,()))))) (some ((6,0,()),(a,()))))))))))))))
def tW(g:Q_g)(a:v6)(b:Int):b3W:=
 ((f5 a.p_.No b).bind fun c=>((f5 a.p_.Ms b).bind fun d=>((Ju g a b).bind fun e=>(cond (decide (c.Ks=32)) ((okP (D2 1 (e.1.1.length:Int) (e.1.1.length:Int))).bind fun _=>Ra g b (y8 e.1.1 1 (e.1.1.length:Int)) c d e) (cond (decide (c.Ks=31)) (cond (decide (c.Ns=14)) (cW g b c e) (cond (decide (c.Ns=15)) (cW g b c e) (Ra g b e.1.1 c d e))) (Ra g b e.1.1 c d e))))))
def Yg(g:Q_g)(a:Int)(b:(List Int))(c:Int)(d:Int)(e:d7)(f:i8)(h:v6):b3W:=
 (cond (decide (d<c)) ((f5 b d).bind fun j=>((X9 g h j).bind fun k=>Ui g a b c (w64 (d+1)) e f k.2.1)) (FF g a e f h))
def eW(g:Q_g)(a:Int)(b:Int)(c:G4)(d:N8):b3W:=
 ((Q8 g c.2.1 b 0 a).bind fun e=>((f5 d.1.1 1).bind fun f=>((d.1.1[(Int.toNat 1)]?).bind fun h=>((X9 g e.2.1 h).bind fun j=>((Mj g j.2.1 e.1.1).bind fun k=>(some ((()),(k.2.1,()))))))))
def mP(g:Q_g)(a:Int)(b:d7)(c:N8):b3W:=
 ((f5 c.1.1 0).bind fun d=>((c.1.1[(Int.toNat 0)]?).bind fun e=>((X9 g c.2.1 e).bind fun f=>(cond (decide (b.Ns=15)) (nC g a 14 f c) (nC g a 13 f c)))))
def sG(g:Q_g)(a:Int)(b:(List Int))(c:d7)(d:i8)(e:N8):b3W:=
 Ui g a b (b.length:Int) 0 c d e.2.1
def qD(g:Q_g)(a:Int)(b:d7)(c:i8)(d:v6):b3W:=
 ((vJ g d b c).bind fun e=>((Q8 g e.2.1 e.1.1 e.1.2.1 a).bind fun f=>(some ((()),(f.2.1,())))))
def oM(g:Q_g)(a:v6)(b:Int)(c:(List Int)):b3W:=
 ((f5 c 0).bind fun d=>((Ju g a d).bind fun e=>Ua g b c e 0 e.2.1))
def Xi(g:Q_g)(a:Int)(b:(List Int))(c:N8)(d:Int)(e:v6):b3W:=
 (cond (decide (d<(c.1.1.length:Int))) ((f5 c.1.1 d).bind fun f=>((c.1.1[(Int.toNat d)]?).bind fun h=>((X9 g e h).bind fun j=>Ua g a b c (w64 (d+1)) j.2.1))) (CU g a b e))
def bD(g:Q_g)(a:Int)(b:(List Int))(c:v6):b3W:=
 ((f5 b 1).bind fun d=>((X9 g c d).bind fun e=>((f5 b 0).bind fun f=>((f5 e.2.1.p_.Ms f).bind fun h=>((f5 b 0).bind fun j=>((f5 e.2.1.p_.No j).bind fun k=>(cond (decide (k.Ks=26)) ((Q8 g e.2.1 8 h.Do a).bind fun l=>(some ((()),(l.2.1,())))) (cond (decide (k.Ks=28)) ((f5 b 0).bind fun m=>((Q8 g e.2.1 16 0 m).bind fun n=>(some ((()),(n.2.1,()))))) (cond (decide (k.Ks=29)) ((f5 b 0).bind fun o=>((Q8 g e.2.1 18 h.Do o).bind fun p=>(some ((()),(p.2.1,()))))) (some ((()),(e.2.1,()))))))))))))
def tE(g:Q_g)(a:v6)(b:Int):b3W:=
 ((Ju g a b).bind fun c=>((f5 c.2.1.p_.Ms b).bind fun d=>((Q8 g c.2.1 1 d.If b).bind fun e=>((f5 e.2.1.p_.No b).bind fun f=>(cond (decide (f.Ks=7)) ((f5 c.1.1 1).bind fun h=>((c.1.1[(Int.toNat 1)]?).bind fun j=>((X9 g e.2.1 j).bind fun k=>((f5 k.2.1.p_.Ms b).bind fun l=>((Q8 g k.2.1 8 l.Do b).bind fun m=>(some ((()),(m.2.1,())))))))) (cond (decide (f.Ks=8)) ((FT g e.2.1 b c.1.1).bind fun n=>(some ((()),(n.2.1,())))) (cond (decide (f.Ks=9)) ((f5 c.1.1 0).bind fun o=>((c.1.1[(Int.toNat 0)]?).bind fun p=>((X9 g e.2.1 p).bind fun q=>((Q8 g q.2.1 12 0 b).bind fun s=>((f5 c.1.1 1).bind fun t=>((c.1.1[(Int.toNat 1)]?).bind fun u=>((Mv g s.2.1 u).bind fun v=>(cond (decide ((c.1.1.length:Int)=3)) ((Q8 g v.2.1 11 0 b).bind fun w=>((Mj g w.2.1 s.1.1).bind fun y=>((f5 c.1.1 2).bind fun z=>((c.1.1[(Int.toNat 2)]?).bind fun a1=>((Mv g y.2.1 a1).bind fun b1=>vM g w.1.1 b1.2.1))))) (vM g s.1.1 v.2.1))))))))) (cond (decide (f.Ks=10)) ((f5 c.1.1 0).bind fun c1=>((c.1.1[(Int.toNat 0)]?).bind fun d1=>((X9 g e.2.1 d1).bind fun e1=>((Q8 g e1.2.1 12 0 b).bind fun f1=>((f5 c.1.1 1).bind fun h1=>((c.1.1[(Int.toNat 1)]?).bind fun j1=>((Mv g f1.2.1 j1).bind fun k1=>((Q8 g k1.2.1 11 e.1.1 b).bind fun l1=>((Mj g l1.2.1 f1.1.1).bind fun m1=>(some ((()),(m1.2.1,())))))))))))) (cond (decide (f.Ks=11)) (cond (decide ((c.1.1.length:Int)=0)) ((Q8 g e.2.1 26 0 b).bind fun n1=>(some ((()),(n1.2.1,())))) ((f5 c.1.1 0).bind fun o1=>((c.1.1[(Int.toNat 0)]?).bind fun p1=>((X9 g e.2.1 p1).bind fun q1=>((Q8 g q1.2.1 25 0 b).bind fun s1=>(some ((()),(s1.2.1,())))))))) (cond (decide (f.Ks=12)) ((f5 c.1.1 0).bind fun t1=>((c.1.1[(Int.toNat 0)]?).bind fun u1=>((X9 g e.2.1 u1).bind fun v1=>((Q8 g v1.2.1 23 0 b).bind fun w1=>(some ((()),(w1.2.1,()))))))) (cond (decide (f.Ks=13)) ((f5 c.1.1 0).bind fun y1=>((c.1.1[(Int.toNat 0)]?).bind fun z1=>((X9 g e.2.1 z1).bind fun a2=>((f5 c.1.1 0).bind fun b2=>((c.1.1[(Int.toNat 0)]?).bind fun c2=>((f5 a2.2.1.p_.Ms c2).bind fun d2=>(cond (!(decide (d2.Ts=0))) ((Q8 g a2.2.1 24 0 b).bind fun e2=>(some ((()),(e2.2.1,())))) (some ((()),(a2.2.1,())))))))))) (some ((()),(e.2.1,()))))))))))))))
def Rw(g:Q_g)(a:Int)(b:v6):b3W:=
 ((Mj g b a).bind fun c=>(some ((()),(c.2.1,()))))
def jY(g:Q_g)(a:v6)(b:Int):b3W:=
 ((Ju g a b).bind fun c=>nL g c 0 c.2.1)
def Vk(g:Q_g)(a:N8)(b:Int)(c:v6):b3W:=
 (cond (decide (b<(a.1.1.length:Int))) ((f5 a.1.1 b).bind fun d=>((a.1.1[(Int.toNat b)]?).bind fun e=>((uI g c e).bind fun f=>nL g a (w64 (b+1)) f.2.1))) (some ((()),(c,()))))
def mJ(g:Q_g)(a:l7):b30:=
 Yp g a 0 (v6.mk a (o9.mk ([]:List i5) ([]:List B3) ([]:List (b36))) 0 ([]:List ((b36) × Int)))
def Wd(g:Q_g)(a:l7)(b:Int)(c:v6):b30:=
 (cond (decide (b<(a.As.length:Int))) ((f5 a.As b).bind fun d=>((Ju g (v6.mk c.p_ c.c_ (c.c_.Qs.length:Int) c.texts_) d.Gs).bind fun e=>((f5 e.1.1 (w64 ((e.1.1.length:Int)-1))).bind fun f=>((e.1.1[(Int.toNat (w64 ((e.1.1.length:Int)-1)))]?).bind fun h=>((Mv g e.2.1 h).bind fun j=>((Q8 g j.2.1 26 0 d.Gs).bind fun k=>((BR g k.2.1).bind fun l=>(cond (!(decide (d.By=0))) (lM g a b k l d 1) (lM g a b k l d 0))))))))) (aX g c))
def mW(g:Q_g)(a:l7)(b:Int)(c:RT1)(d:RT2)(e:u9)(f:Int):b30:=
 ((y9 40 c.2.1.c_.As ([(B3.mk c.2.1.from_ d.1.1 e.Es e.Ss f)]:List B3)).bind fun h=>GJ g a b c h)
def gB(g:Q_g)(a:v6):b30:=
 (some ((a.c_,()),()))
def iQ(g:Q_g)(a:l7)(b:Int)(c:RT1)(d:(List B3)):b30:=
 Yp g a (w64 (b+1)) (v6.mk c.2.1.p_ (o9.mk c.2.1.c_.Qs d c.2.1.c_.Is) c.2.1.from_ c.2.1.texts_)
def LU(g:Q_g)(a:o9)(b:Int):Option Rq:=
 (dR a b).bind fun r=>(some ((r,()),()):Option Rq)
def VB(g:Q_g):Option RT0:=
 ((aC g ([102,110,32,109,97,105,110,40,41,32,123,32,112,114,105,110,116,32,49,32,43,32,50,59,32,125]:b36)).bind fun a=>((gX g a.1.1).bind fun b=>((b2x g b.1.1 0).bind fun c=>(some (((decide (c.1.1=([48,32,112,111,105,110,116,32,48,10,49,32,105,110,116,32,49,10,50,32,105,110,116,32,50,10,51,32,98,105,110,32,49,10,52,32,112,114,105,110,116,10,53,32,108,101,97,118,101,10]:b36))),()),())))))
def dM(g:Q_g)(a:o9)(b:o9):Option RT0:=
 (cond (!(decide ((a.Qs.length:Int)=(b.Qs.length:Int)))) (some ((false,()),())) (cond (!(decide ((a.As.length:Int)=(b.As.length:Int)))) (some ((false,()),())) (cond (!(decide ((a.Is.length:Int)=(b.Is.length:Int)))) (some ((false,()),())) (gZ g a 0 b))))
def Xr(g:Q_g)(a:o9)(b:Int)(c:o9):Option RT0:=
 (cond (decide (b<(a.Qs.length:Int))) ((f5 a.Qs b).bind fun d=>((f5 c.Qs b).bind fun e=>(cond (!((decide (d.Op=e.Op)&&(decide (d.A=e.A)&&decide (d.Ls=e.Ls))))) (some ((false,()),())) (gZ g a (w64 (b+1)) c)))) (OL g a c))
def qZ(g:Q_g)(a:o9)(b:o9):Option RT0:=
 uA g a 0 b
def Wm(g:Q_g)(a:o9)(b:Int)(c:o9):Option RT0:=
 (cond (decide (b<(a.As.length:Int))) ((f5 a.As b).bind fun d=>((f5 c.As b).bind fun e=>(cond (!((decide (d.At=e.At)&&(decide (d.On=e.On)&&(decide (d.Es=e.Es)&&(decide (d.Ss=e.Ss)&&decide (d.By=e.By))))))) (some ((false,()),())) (uA g a (w64 (b+1)) c)))) (KA g a c))
def qL(g:Q_g)(a:o9)(b:o9):Option RT0:=
 pP g a 0 b
def Yw(g:Q_g)(a:o9)(b:Int)(c:o9):Option RT0:=
 (cond (decide (b<(a.Is.length:Int))) ((f5 a.Is b).bind fun d=>((f5 c.Is b).bind fun e=>(cond (!(decide (d=e))) (some ((false,()),())) (pP g a (w64 (b+1)) c)))) (LK g))
def rQ(g:Q_g):Option RT0:=
 (some ((true,()),()))
def kZ(g:Q_g)(a:(List i5))(b:Int):b31:=
 jC g a b 0 ([]:List i5)
def Xo(g:Q_g)(a:(List i5))(b:Int)(c:Int)(d:(List i5)):b31:=
 (cond (decide (c<(a.length:Int))) ((f5 a c).bind fun e=>(cond (decide (e.Op≥11)) (cond (decide (e.Op≤14)) (Te g a b c e (w64 (e.A+b)) d) (Te g a b c e e.A d)) (Te g a b c e e.A d))) (UX g d))
def qU(g:Q_g)(a:(List i5))(b:Int)(c:Int)(d:i5)(e:Int)(f:(List i5)):b31:=
 ((y9 24 f ([(i5.mk d.Op e d.Ls)]:List i5)).bind fun h=>OO g a b c h)
def qP(g:Q_g)(a:(List i5)):b31:=
 (some ((a,()),()))
def iW(g:Q_g)(a:(List i5))(b:Int)(c:Int)(d:(List i5)):b31:=
 jC g a b (w64 (c+1)) d
def rE(g:Q_g)(a:(List i5))(b:(List i5)):b31:=
 ((y9 24 ([]:List i5) a).bind fun c=>((CT g b (a.length:Int)).bind fun d=>((y9 24 c d.1.1).bind fun e=>(some ((e,()),())))))
def jU(g:Q_g)(a:B8)(b:Int)(c:Int)(d:Int):b31:=
 ((f5 a.P.No d).bind fun e=>(some ((([(i5.mk b c e.Ls)]:List i5),()),())))
def Xu(g:Q_g)(a:B8)(b:(List Int)):b3V:=
 Ha g b 0 a ([]:List i5)
def Vm(g:Q_g)(a:(List Int))(b:Int)(c:B8)(d:(List i5)):b3V:=
 (cond (decide (b<(a.length:Int))) ((f5 a b).bind fun e=>((V5 g c e).bind fun f=>((E6 g d f.1.1).bind fun h=>Ha g a (w64 (b+1)) f.1.2.1 h.1.1))) (Yb g c d))
def Yv(g:Q_g)(a:B8)(b:(List i5)):b3V:=
 (some ((b,a,()),()))
def Sr(g:Q_g)(a:B8)(b:Int):b3V:=
 ((f5 a.P.No b).bind fun c=>((J7 g a.P.No b).bind fun d=>(cond (decide (c.Ks=31)) (cond (decide (c.Ns≥14)) ((f5 d.1.1 0).bind fun e=>((d.1.1[(Int.toNat 0)]?).bind fun f=>((V5 g a f).bind fun h=>((f5 d.1.1 1).bind fun j=>((d.1.1[(Int.toNat 1)]?).bind fun k=>((V5 g h.1.2.1 k).bind fun l=>((G3 g l.1.2.1 (IntKind.wrap .u8 (w64 (c.Ns-1))) (w64 (1+(l.1.1.length:Int))) b).bind fun m=>((E6 g h.1.1 m.1.1).bind fun n=>((E6 g n.1.1 l.1.1).bind fun o=>(some ((o.1.1,l.1.2.1,()),()))))))))))) (nK g b a c d)) (nK g b a c d))))
def jE(g:Q_g)(a:C4)(b:(List (b36)))(c:(List i5)):b3V:=
 ((E6 g a.1.1 c).bind fun d=>(some ((d.1.1,(B8.mk a.1.2.1.P b),()),())))
def Sb(g:Q_g)(a:Int)(b:Int)(c:C4)(d:Int)(e:d7):b3V:=
 (cond (decide (d<(c.1.2.1.Is.length:Int))) ((f5 c.1.2.1.Is d).bind fun f=>(cond (decide (f=e.Ds)) (Io g a d c (w64 (d+1)) e) (Io g a b c (w64 (d+1)) e))) (vL g a b c e))
def bS(g:Q_g)(a:Int)(b:(List Int))(c:B8)(d:d7):b3V:=
 ((Ot g c b).bind fun e=>((f5 e.1.2.1.P.Ms a).bind fun f=>(cond (decide (d.Ks=21)) ((G3 g e.1.2.1 2 d.Ns a).bind fun h=>Q9 g e e.1.2.1.Is h.1.1) (cond (decide (d.Ks=22)) ((G3 g e.1.2.1 4 d.Ns a).bind fun j=>Q9 g e e.1.2.1.Is j.1.1) (cond (decide (d.Ks=23)) (Io g a (-1) e 0 d) (cond (decide (d.Ks=24)) ((G3 g e.1.2.1 3 d.Ns a).bind fun k=>Q9 g e e.1.2.1.Is k.1.1) (cond (decide (d.Ks=25)) ((G3 g e.1.2.1 6 0 a).bind fun l=>Q9 g e e.1.2.1.Is l.1.1) (cond (decide (d.Ks=26)) ((G3 g e.1.2.1 7 f.Do a).bind fun m=>Q9 g e e.1.2.1.Is m.1.1) (cond (decide (d.Ks=27)) ((G3 g e.1.2.1 19 f.Do a).bind fun n=>(cond (decide (f.Do<0)) ((G3 g e.1.2.1 20 (w64 (0-f.Do)) a).bind fun o=>Q9 g e e.1.2.1.Is o.1.1) (Q9 g e e.1.2.1.Is n.1.1))) (cond (decide (d.Ks=28)) ((G3 g e.1.2.1 15 0 a).bind fun p=>Q9 g e e.1.2.1.Is p.1.1) (cond (decide (d.Ks=29)) ((G3 g e.1.2.1 17 f.Do a).bind fun q=>Q9 g e e.1.2.1.Is q.1.1) (cond (decide (d.Ks=30)) ((G3 g e.1.2.1 9 d.Ns a).bind fun s=>Q9 g e e.1.2.1.Is s.1.1) (cond (decide (d.Ks=31)) ((G3 g e.1.2.1 10 d.Ns a).bind fun t=>Q9 g e e.1.2.1.Is t.1.1) (cond (decide (d.Ks=32)) ((f5 e.1.2.1.P.Ms a).bind fun u=>((f5 e.1.2.1.P.To u.Ts).bind fun v=>((G3 g e.1.2.1 21 v.Of a).bind fun w=>(cond (decide (v.Ks=6)) ((G3 g e.1.2.1 22 v.Of a).bind fun y=>Q9 g e e.1.2.1.Is y.1.1) (Q9 g e e.1.2.1.Is w.1.1))))) (Q9 g e e.1.2.1.Is ([]:List i5))))))))))))))))
def tQ(g:Q_g)(a:Int)(b:B8)(c:d7)(d:RT3):b3V:=
 (cond (decide (c.Ks=32)) ((okP (D2 1 (d.1.1.length:Int) (d.1.1.length:Int))).bind fun _=>Wt g a (y8 d.1.1 1 (d.1.1.length:Int)) b c) (Wt g a d.1.1 b c))
end
end
end
end Go.Proofs.YtihbbcealnnpiaaGreatDoor
